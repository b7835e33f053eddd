import Derived.Test.YtlcgonaapmmnkaaDoorSq
import Derived.Test.YtlcgonaapmmnkaaDoorQFnLogsx0
import Derived.Test.YtlcgonaapmmnkaaDoorQFnLogsx12
import Derived.Test.YtlcgonaapmmnkaaDoorQFnLogsx13
namespace Go.Proofs.YtlcgonaapmmnkaaDoor.QFnLogs
open Sq (fl pu_ gl_ b20_ b21_ b30_ b31_ b32_ od_ rr_ be_)
open Base (bwl_ bst_ bsz_ bkb_ nbl_ nbr_ kbl_ bkm_)
open Go.RowKit Go.Proofs.YtlcgonaapmmnkaaDoorW.PrintWords Go.Proofs.YtlcgonaapmmnkaaDoorW.PrintLast Go.Proofs.YtlcgonaapmmnkaaDoorW.PrintMore
attribute [local go_sem] max2_int min2_int max_two min_two max_three min_three max_four min_four
set_option linter.unusedVariables false
set_option linter.unusedSimpArgs false
section
open Go.Proofs.YtlcgonaapmmnkaaDoor.Base (bwl_ bst_ bsz_ bkb_ nbl_ nbr_ kbl_ bkm_)
open Go.Proofs.YtlcgonaapmmnkaaDoor.Sq (fl pu_ gl_ b20_ b21_ b30_ b31_ b32_ od_ rr_ be_)
theorem isk112_sp {P Q : Prop} (h : Aside0 P) (k : P → Q := by (intro h; repeat (first | (with_reducible first | exact h | apply IsS112.alloc | apply IsS112.drew | apply IsS112.drewN | apply IsS112.set_1 | apply IsS112.set_2 | refine IsS112.far ?_ (Aside0.out (by assumption)) _) | exact h))) : Q := k h.out
theorem bwi112_sp {w W : World} (h : Below w.heap.size w W := by repeat (first | (with_reducible first | exact HB.out | apply below_alloc | apply pw_below_drewN | apply below_drew1 | refine below_set ?_ (Aside0.out (by assumption)) | refine below_set ?_ (IsS112.ge (Aside0.out (by assumption)))) | exact HB.out)) : Below w.heap.size w W := h
theorem kt_ {w w1 w2 : World} {g x : Nat} (h : KeepBut w w1 g (some x)) (k : KeepBut w1 w2 g none) : KeepBut w w2 g (some x) := ⟨Nat.le_trans h.1 k.1, fun i hi hg hr => (k.2 i (Nat.lt_of_lt_of_le hi h.1) hg (by simp)).trans (h.2 i hi hg hr)⟩
theorem kset2_ {w w1 : World} {g x : Nat} (h : KeepBut w w1 g (some x)) (j : Nat) (u : Value) : KeepBut w (w1.setCell ⟨x, j, none⟩ u) g (some x) :=
 ⟨by simpa [World.setCell] using h.1, fun i hi hg hr => (Below.heap_setCell w1 ⟨x, j, none⟩ u i (fun e => hr (by rw [e]))).trans (h.2 i hi hg hr)⟩
theorem kdrewN2_ {w w1 : World} {g x : Nat} (h : KeepBut w w1 g (some x)) (m : Nat) : KeepBut w (w1.drewN m) g (some x) := h
theorem kdrew2_ {w w1 : World} {g x : Nat} (h : KeepBut w w1 g (some x)) : KeepBut w w1.drew g (some x) := h
theorem kbx_ {w W0 W : World} {g x : Nat} (h0 : Aside0 (KeepBut w W0 g (some x))) (k : KeepBut w W0 g (some x) → KeepBut w W g (some x) := by (intro h; repeat (first | (with_reducible first | exact h | apply kset2_ | apply kdrewN2_ | apply kdrew2_ | apply KeepBut.set_) | exact h))) : KeepBut w W g (some x) := k h0.out
def spec_l27Spoil.f (s0_0 : List Int) (s0_1 : Int) (s0_2 : Int) (a1_0 : Int) (a1_1 : ByteArray) (a1_2 : ByteArray) : Option (Int × ByteArray × ByteArray × Int × Int) := (spec_l00Src_pick.f s0_0 s0_1 s0_2 3).bind fun bt352 => (if bt352.1 = 0 then ((spec_l00Src_among.f s0_0 bt352.2.1 bt352.2.2 (([(-1), 0, 20000, 20001, (-9223372036854775808)] : List Int))).bind fun bt358 => (some (bt358.1, a1_1, a1_2, bt358.2.1, bt358.2.2))) else (if bt352.1 = 1 then ((spec_l00Src_text.f s0_0 bt352.2.1 bt352.2.2 (([(⟨#[]⟩ : ByteArray), (⟨#[83, 97, 105, 108]⟩ : ByteArray), (⟨#[116, 119, 111, 32, 119, 111, 114, 100, 115]⟩ : ByteArray)] : List ByteArray))).bind fun bt364 => (some (a1_0, bt364.1, a1_2, bt364.2.1, bt364.2.2))) else (if bt352.1 = 2 then ((spec_l00Src_text.f s0_0 bt352.2.1 bt352.2.2 (([(⟨#[10]⟩ : ByteArray), (⟨#[127]⟩ : ByteArray), (⟨#[49, 50, 51, 52, 53, 54, 55, 56, 57, 48, 49, 50, 51, 52, 53, 54, 55, 56, 57, 48, 49, 50, 51, 52, 53, 54, 55, 56, 57, 48, 49, 50, 51, 52, 53, 54, 55, 56, 57, 48, 49, 50, 51, 52, 53, 54, 55, 56, 57, 48, 49, 50, 51, 52, 53, 54, 55, 56, 57, 48, 49]⟩ : ByteArray)] : List ByteArray))).bind fun bt370 => (if a1_2.size + bt370.1.size ≤ 9223372036854775807 then (some (a1_0, a1_1, a1_2 ++ bt370.1, bt370.2.1, bt370.2.2)) else (none))) else (some (a1_0, a1_1, a1_2, bt352.2.1, bt352.2.2)))))
def spec_l27Spoil.T6 : Bool × List (List Nat × List Nat) := (true, [([], []), ([0], [0]), ([1], [1]), ([2], [2]), ([], []), ([], []), ([4, 5], [4, 5]), ([3, 6], [3, 6]), ([0, 0, 1, 2, 3, 4, 5, 6, 7], [0]), ([8, 0, 1, 2, 3, 4, 5, 6, 7], [8]), ([9, 7, 6, 0, 1, 2, 3, 4, 5, 6, 7], [7, 9])])
def spec_l27Spoil.B6 : List Nat := [0, 1, 3, 7, 0, 0, 48, 127, 255, 511, 1023]
theorem spec_l27Spoil.tab6 : rtab .any (opsOf Tryd.f79 6) = spec_l27Spoil.T6 := by kernel_rfl
theorem spec_l27Spoil.bits6 : waitsOk spec_l27Spoil.T6.2 spec_l27Spoil.B6 = true := by kernel_rfl
set_option maxHeartbeats 8000000 in
set_option maxRecDepth 100000 in
theorem spec_l27Spoil.calls (g gb351 : Nat) (s0_0 : List Int) (s0_1 : Int) (s0_2 : Int) (a1_0 : Int) (a1_1 : ByteArray) (a1_2 : ByteArray) (r1 : Int) (r2 : ByteArray) (r3 : ByteArray) (r4 : Int) (r5 : Int) (w0 w : World) (hI : IsS112 w0 w g s0_0 s0_1 s0_2) (hB : Below w0.heap.size w0 w) (hx : w.heap[gb351]? = some (.cells #[.int .i64 a1_0, .string a1_1, .string a1_2] 26 (0, 0))) (hge : w0.heap.size ≤ gb351) (hne : g ≠ gb351) (h : spec_l27Spoil.f s0_0 s0_1 s0_2 a1_0 a1_1 a1_2 = some (r1, r2, r3, r4, r5)) :
  Calls Tryd.prog 79 #[.pointer (some ⟨g, 0, none⟩), .pointer (some ⟨gb351, 0, none⟩)] w fun e w' => e = .returned (.tuple #[]) ∧ IsS112 w0 w' g s0_0 r4 r5 ∧ w'.heap[gb351]? = some (.cells #[.int .i64 r1, .string r2, .string r3] 26 (0, 0)) ∧ Below w0.heap.size w0 w' ∧ KeepBut w w' g (some gb351) := by
 have hu26 := Tryd.underlying26
 have HI0 := Aside0.mk hI
 have HK := Aside0.mk (KeepBut.refl w g (some gb351))
 have BK351 := Aside0.mk hx
 have GE351 := Aside0.mk hge
 have NB0_351 := Aside0.mk hne
 have NB351_0 := Aside0.mk hne.symm
 clear hx hge hne
 have HL := Aside0.mk hB.size
 clear hI
 have HW0 := Aside0.mk hB.size
 have HB := Aside0.mk hB
 clear hB
 have H : ((spec_l00Src_pick.f s0_0 s0_1 s0_2 3).bind fun bt352 => (if bt352.1 = 0 then ((spec_l00Src_among.f s0_0 bt352.2.1 bt352.2.2 (([(-1), 0, 20000, 20001, (-9223372036854775808)] : List Int))).bind fun bt358 => (some (bt358.1, a1_1, a1_2, bt358.2.1, bt358.2.2))) else (if bt352.1 = 1 then ((spec_l00Src_text.f s0_0 bt352.2.1 bt352.2.2 (([(⟨#[]⟩ : ByteArray), (⟨#[83, 97, 105, 108]⟩ : ByteArray), (⟨#[116, 119, 111, 32, 119, 111, 114, 100, 115]⟩ : ByteArray)] : List ByteArray))).bind fun bt364 => (some (a1_0, bt364.1, a1_2, bt364.2.1, bt364.2.2))) else (if bt352.1 = 2 then ((spec_l00Src_text.f s0_0 bt352.2.1 bt352.2.2 (([(⟨#[10]⟩ : ByteArray), (⟨#[127]⟩ : ByteArray), (⟨#[49, 50, 51, 52, 53, 54, 55, 56, 57, 48, 49, 50, 51, 52, 53, 54, 55, 56, 57, 48, 49, 50, 51, 52, 53, 54, 55, 56, 57, 48, 49, 50, 51, 52, 53, 54, 55, 56, 57, 48, 49, 50, 51, 52, 53, 54, 55, 56, 57, 48, 49, 50, 51, 52, 53, 54, 55, 56, 57, 48, 49]⟩ : ByteArray)] : List ByteArray))).bind fun bt370 => (if a1_2.size + bt370.1.size ≤ 9223372036854775807 then (some (a1_0, a1_1, a1_2 ++ bt370.1, bt370.2.1, bt370.2.2)) else (none))) else (some (a1_0, a1_1, a1_2, bt352.2.1, bt352.2.2)))))) = some (r1, r2, r3, r4, r5) := h
 clear h
 replace H := Option.bind_eq_some_iff.mp H
 obtain ⟨⟨t352, t353, t354⟩, A30, H⟩ := H
 (try dsimp only at H)
 have A3 := Aside0.mk A30
 clear A30
 by_cases c4 : t352 = 0
 ·rw [if_pos c4] at H
  have c4b0 : (t352 == 0) = true := beq_iff_eq.mpr c4
  have c4b1 : (t352 != 0) = false := bne_eq_false_iff_eq.mpr c4
  clear c4
  obtain ⟨y355, hy355⟩ : ∃ y_ : List Int, y_ = (([(-1), 0, 20000, 20001, (-9223372036854775808)] : List Int)) := ⟨_, rfl⟩
  replace H : ((spec_l00Src_among.f s0_0 t353 t354 y355).bind fun bt358 => (some (bt358.1, a1_1, a1_2, bt358.2.1, bt358.2.2))) = some (r1, r2, r3, r4, r5) := by first | (rw [hy355]; with_reducible exact H) | (have H2_ := (Option.bind_some _ _).symm.trans H; rw [hy355]; with_reducible exact H2_) | (have H2_ := (Option.bind_some _ _).symm.trans H; with_reducible exact H2_) | with_reducible exact H | (rw [hy355]; exact H) | exact H
  have Ny355 := Aside0.mk hy355
  clear hy355
  replace H := Option.bind_eq_some_iff.mp H
  obtain ⟨⟨t358, t359, t360⟩, A50, H⟩ := H
  (try dsimp only at H)
  have A5 := Aside0.mk A50
  clear A50
  simp only [Option.some.injEq, Prod.mk.injEq] at H
  obtain ⟨rfl, rfl, rfl, rfl, rfl⟩ := H
  go_enter Tryd.func79, Tryd.ntmps79
  go_wp2_with (first | ((with_reducible refine gate_callee (f := 77) rfl ?_); refine goesL_ (some 5) rfl rfl Tryd.func77 (by kernel_rfl) rfl #[.pointer (some ⟨g, 0, none⟩), .int .i64 3] rfl (by (try simp only [List.map_toArray, List.map_cons, List.map_nil]); first | done | rfl | (simp only [List.length_drop, List.length_take]; rfl)) ?_; (with_reducible refine (spec_l00Src_pick.calls g s0_0 s0_1 s0_2 3 t352 t353 t354 w0 _ ?side1 ?side2 A3.out).mono ?_); (case side1 => exact isk112_sp HI0); (case side2 => exact bwi112_sp); rintro e w7 ⟨rfl, hi, hb, hk⟩; refine ⟨_, rfl, ?_⟩; replace BK351 := Aside0.mk (KeepBut.blk hk (g' := gb351) (o := .cells #[.int .i64 a1_0, .string a1_1, .string a1_2] 26 (0, 0)) (by (with_reducible repeat (first | refine blk_drewN ?_ _ | refine blk_drew ?_ | refine blk_alloc ?_ _)); exact BK351.out) NB351_0.out (by simp)); replace HK := Aside0.mk (kt_ (kbx_ HK) hk); replace HB := Aside0.mk (hb); replace HI0 := Aside0.mk (hi); clear hb hk hi) | ((with_reducible refine gate_dst (N := 10) rfl ?_); refine Kd.R_lit (Kd.int .i64) _ 2 ?hg (N := 10) ?hd (xs := ([(-1), 0, 20000, 20001, (-9223372036854775808)] : List Int)) (inner := [.int .i64 (-1), .int .i64 0, .int .i64 20000, .int .i64 20001, .int .i64 (-9223372036854775808)]) (ok := fun _ => True) (okp := fun _ => True) ?hr ?hp (fun _ hk => hk) trivial (Below.refl _ _) (Nat.le_refl _) (by simp) ?_; (case hd => rfl); (case hg => rfl); (case hr => first | (go_simp; done) | (go_simp; rfl)); (case hp => exact (Reps.one (show Kd.M (Kd.int .i64) _ _ _ (-1) [.int .i64 (-1)] from rfl) (Reps.one (show Kd.M (Kd.int .i64) _ _ _ 0 [.int .i64 0] from rfl) (Reps.one (show Kd.M (Kd.int .i64) _ _ _ 20000 [.int .i64 20000] from rfl) (Reps.one (show Kd.M (Kd.int .i64) _ _ _ 20001 [.int .i64 20001] from rfl) (Reps.one (show Kd.M (Kd.int .i64) _ _ _ (-9223372036854775808) [.int .i64 (-9223372036854775808)] from rfl) (Reps.none _ _))))))); intro v356 w8 ho9 hb hg_ hnew_; clear hg_ hnew_; (first | rw [← Ny355.out] at ho9 | (simp only [Int.reduceToNat] at ho9; rw [← Ny355.out] at ho9)); have HO357 := Aside0.mk (Kd.R_lower ho9 (keep_size (w := w) (g := g) (row := some gb351) (kbx_ HK))); replace BK351 := bkb_ BK351 hb; replace HK := Aside0.mk (kt_ (kbx_ HK) (KeepBut.of_below hb g none)); replace HB := Aside0.mk (below_step bwi112_sp hb); replace HI0 := Aside0.mk (IsS112.below (isk112_sp HI0) hb); clear hb ho9; obtain ⟨Ao10, co10, eo10⟩ := Kd.R_slice HO357.out; subst eo10) | ((with_reducible refine gate_callee (f := 76) rfl ?_); refine goesL_ (some 11) rfl rfl Tryd.func76 (by kernel_rfl) rfl #[.pointer (some ⟨g, 0, none⟩), .slice Ao10 y355.length co10] rfl (by (try simp only [List.map_toArray, List.map_cons, List.map_nil]); first | done | rfl | (simp only [List.length_drop, List.length_take]; rfl)) ?_; (with_reducible refine (spec_l00Src_among.calls g s0_0 t353 t354 _ _ y355 t358 t359 t360 w0 _ ?side1 ?side2 ?side3 ?side4 ?side5 A5.out).mono ?_); (case side1 => exact isk112_sp HI0); (case side2 => exact bwi112_sp); (case side3 => repeat (first | exact (Kd.R_reads' HO357.out).2.2 | (with_reducible refine Kd.C_alloc ?_ _) | (with_reducible refine Kd.C_drewN ?_ _) | (with_reducible refine Kd.C_drew ?_))); (case side4 => exact (Kd.R_reads' HO357.out).2.1); (case side5 => exact far_slice (IsS112.own_ne HI0.out HO357.out (by decide))); rintro e w11 ⟨rfl, hi, hb, hk⟩; refine ⟨_, rfl, ?_⟩; replace BK351 := Aside0.mk (KeepBut.blk hk (g' := gb351) (o := .cells #[.int .i64 a1_0, .string a1_1, .string a1_2] 26 (0, 0)) (by (with_reducible repeat (first | refine blk_drewN ?_ _ | refine blk_drew ?_ | refine blk_alloc ?_ _)); exact BK351.out) NB351_0.out (by simp)); replace HO357 := Aside0.mk (Kd.R_mono (Kd.R_keep (IsS112.apart (show IsS112 w0 _ g s0_0 t353 t354 from by repeat (first | (with_reducible first | exact HI0.out | apply IsS112.alloc | apply IsS112.drewN | apply IsS112.drew | apply IsS112.set_1 | apply IsS112.set_2 | refine IsS112.far ?_ NB0_351.out _) | exact HI0.out)) (by (with_reducible repeat (first | apply Kd.R_alloc | apply Kd.R_drewN | apply Kd.R_drew)); exact HO357.out) (by decide)) hk (fun _ h => h.2)) (fun _ h => h.1)); replace HK := Aside0.mk (kt_ (kbx_ HK) hk); replace HB := Aside0.mk (hb); replace HI0 := Aside0.mk (hi); clear hb hk hi; have hnb12 := NB351_0.out; have hnc12 := NB0_351.out; have hcz13_0 := b30_ BK351; have hcz13_1 := b31_ BK351; have hcz13_2 := b32_ BK351; have hfz13_0 := blk_frozen BK351.out 0; have hfz13_1 := blk_frozen BK351.out 1; have hfz13_2 := blk_frozen BK351.out 2))
  go_end0
  exact ⟨rfl, isk112_sp HI0, (by first | exact BK351.out | exact blk_put BK351.out 0 _ rfl | exact blk_put BK351.out 1 _ rfl | exact blk_put BK351.out 2 _ rfl), bwi112_sp, kbx_ HK⟩
 ·rw [if_neg c4] at H
  have c4b0 : (t352 == 0) = false := beq_eq_false_iff_ne.mpr c4
  have c4b1 : (t352 != 0) = true := bne_iff_ne.mpr c4
  by_cases c14 : t352 = 1
  ·rw [if_pos c14] at H
   have c14b0 : (t352 == 1) = true := beq_iff_eq.mpr c14
   have c14b1 : (t352 != 1) = false := bne_eq_false_iff_eq.mpr c14
   clear c14
   obtain ⟨y361, hy361⟩ : ∃ y_ : List ByteArray, y_ = (([(⟨#[]⟩ : ByteArray), (⟨#[83, 97, 105, 108]⟩ : ByteArray), (⟨#[116, 119, 111, 32, 119, 111, 114, 100, 115]⟩ : ByteArray)] : List ByteArray)) := ⟨_, rfl⟩
   replace H : ((spec_l00Src_text.f s0_0 t353 t354 y361).bind fun bt364 => (some (a1_0, bt364.1, a1_2, bt364.2.1, bt364.2.2))) = some (r1, r2, r3, r4, r5) := by first | (rw [hy361]; with_reducible exact H) | (have H2_ := (Option.bind_some _ _).symm.trans H; rw [hy361]; with_reducible exact H2_) | (have H2_ := (Option.bind_some _ _).symm.trans H; with_reducible exact H2_) | with_reducible exact H | (rw [hy361]; exact H) | exact H
   have Ny361 := Aside0.mk hy361
   clear hy361
   replace H := Option.bind_eq_some_iff.mp H
   obtain ⟨⟨t364, t365, t366⟩, A150, H⟩ := H
   (try dsimp only at H)
   have A15 := Aside0.mk A150
   clear A150
   simp only [Option.some.injEq, Prod.mk.injEq] at H
   obtain ⟨rfl, rfl, rfl, rfl, rfl⟩ := H
   go_enter Tryd.func79, Tryd.ntmps79
   go_wp2_with (first | ((with_reducible refine gate_callee (f := 77) rfl ?_); refine goesL_ (some 5) rfl rfl Tryd.func77 (by kernel_rfl) rfl #[.pointer (some ⟨g, 0, none⟩), .int .i64 3] rfl (by (try simp only [List.map_toArray, List.map_cons, List.map_nil]); first | done | rfl | (simp only [List.length_drop, List.length_take]; rfl)) ?_; (with_reducible refine (spec_l00Src_pick.calls g s0_0 s0_1 s0_2 3 t352 t353 t354 w0 _ ?side1 ?side2 A3.out).mono ?_); (case side1 => exact isk112_sp HI0); (case side2 => exact bwi112_sp); rintro e w17 ⟨rfl, hi, hb, hk⟩; refine ⟨_, rfl, ?_⟩; replace BK351 := Aside0.mk (KeepBut.blk hk (g' := gb351) (o := .cells #[.int .i64 a1_0, .string a1_1, .string a1_2] 26 (0, 0)) (by (with_reducible repeat (first | refine blk_drewN ?_ _ | refine blk_drew ?_ | refine blk_alloc ?_ _)); exact BK351.out) NB351_0.out (by simp)); replace HK := Aside0.mk (kt_ (kbx_ HK) hk); replace HB := Aside0.mk (hb); replace HI0 := Aside0.mk (hi); clear hb hk hi) | ((with_reducible refine gate_dst (N := 18) rfl ?_); refine Kd.R_lit Kd.string _ 9 ?hg (N := 18) ?hd (xs := ([(⟨#[]⟩ : ByteArray), (⟨#[83, 97, 105, 108]⟩ : ByteArray), (⟨#[116, 119, 111, 32, 119, 111, 114, 100, 115]⟩ : ByteArray)] : List ByteArray)) (inner := [.string (⟨#[]⟩ : ByteArray), .string (⟨#[83, 97, 105, 108]⟩ : ByteArray), .string (⟨#[116, 119, 111, 32, 119, 111, 114, 100, 115]⟩ : ByteArray)]) (ok := fun _ => True) (okp := fun _ => True) ?hr ?hp (fun _ hk => hk) trivial (Below.refl _ _) (Nat.le_refl _) (by simp) ?_; (case hd => rfl); (case hg => rfl); (case hr => first | (go_simp; done) | (go_simp; rfl)); (case hp => exact (Reps.one (show Kd.M Kd.string _ _ _ (⟨#[]⟩ : ByteArray) [.string (⟨#[]⟩ : ByteArray)] from rfl) (Reps.one (show Kd.M Kd.string _ _ _ (⟨#[83, 97, 105, 108]⟩ : ByteArray) [.string (⟨#[83, 97, 105, 108]⟩ : ByteArray)] from rfl) (Reps.one (show Kd.M Kd.string _ _ _ (⟨#[116, 119, 111, 32, 119, 111, 114, 100, 115]⟩ : ByteArray) [.string (⟨#[116, 119, 111, 32, 119, 111, 114, 100, 115]⟩ : ByteArray)] from rfl) (Reps.none _ _))))); intro v362 w18 ho19 hb hg_ hnew_; clear hg_ hnew_; (first | rw [← Ny361.out] at ho19 | (simp only [Int.reduceToNat] at ho19; rw [← Ny361.out] at ho19)); have HO363 := Aside0.mk (Kd.R_lower ho19 (keep_size (w := w) (g := g) (row := some gb351) (kbx_ HK))); replace BK351 := bkb_ BK351 hb; replace HK := Aside0.mk (kt_ (kbx_ HK) (KeepBut.of_below hb g none)); replace HB := Aside0.mk (below_step bwi112_sp hb); replace HI0 := Aside0.mk (IsS112.below (isk112_sp HI0) hb); clear hb ho19; obtain ⟨Ao20, co20, eo20⟩ := Kd.R_slice HO363.out; subst eo20) | ((with_reducible refine gate_callee (f := 82) rfl ?_); refine goesL_ (some 19) rfl rfl Tryd.func82 (by kernel_rfl) rfl #[.pointer (some ⟨g, 0, none⟩), .slice Ao20 y361.length co20] rfl (by (try simp only [List.map_toArray, List.map_cons, List.map_nil]); first | done | rfl | (simp only [List.length_drop, List.length_take]; rfl)) ?_; (with_reducible refine (spec_l00Src_text.calls g s0_0 t353 t354 _ _ y361 t364 t365 t366 w0 _ ?side1 ?side2 ?side3 ?side4 ?side5 A15.out).mono ?_); (case side1 => exact isk112_sp HI0); (case side2 => exact bwi112_sp); (case side3 => repeat (first | exact (Kd.R_reads' HO363.out).2.2 | (with_reducible refine Kd.C_alloc ?_ _) | (with_reducible refine Kd.C_drewN ?_ _) | (with_reducible refine Kd.C_drew ?_))); (case side4 => exact (Kd.R_reads' HO363.out).2.1); (case side5 => exact far_slice (IsS112.own_ne HI0.out HO363.out (by decide))); rintro e w21 ⟨rfl, hi, hb, hk⟩; refine ⟨_, rfl, ?_⟩; replace BK351 := Aside0.mk (KeepBut.blk hk (g' := gb351) (o := .cells #[.int .i64 a1_0, .string a1_1, .string a1_2] 26 (0, 0)) (by (with_reducible repeat (first | refine blk_drewN ?_ _ | refine blk_drew ?_ | refine blk_alloc ?_ _)); exact BK351.out) NB351_0.out (by simp)); replace HO363 := Aside0.mk (Kd.R_mono (Kd.R_keep (IsS112.apart (show IsS112 w0 _ g s0_0 t353 t354 from by repeat (first | (with_reducible first | exact HI0.out | apply IsS112.alloc | apply IsS112.drewN | apply IsS112.drew | apply IsS112.set_1 | apply IsS112.set_2 | refine IsS112.far ?_ NB0_351.out _) | exact HI0.out)) (by (with_reducible repeat (first | apply Kd.R_alloc | apply Kd.R_drewN | apply Kd.R_drew)); exact HO363.out) (by decide)) hk (fun _ h => h.2)) (fun _ h => h.1)); replace HK := Aside0.mk (kt_ (kbx_ HK) hk); replace HB := Aside0.mk (hb); replace HI0 := Aside0.mk (hi); clear hb hk hi; have hnb22 := NB351_0.out; have hnc22 := NB0_351.out; have hcz23_0 := b30_ BK351; have hcz23_1 := b31_ BK351; have hcz23_2 := b32_ BK351; have hfz23_0 := blk_frozen BK351.out 0; have hfz23_1 := blk_frozen BK351.out 1; have hfz23_2 := blk_frozen BK351.out 2))
   go_end0
   exact ⟨rfl, isk112_sp HI0, (by first | exact BK351.out | exact blk_put BK351.out 0 _ rfl | exact blk_put BK351.out 1 _ rfl | exact blk_put BK351.out 2 _ rfl), bwi112_sp, kbx_ HK⟩
  ·rw [if_neg c14] at H
   have c14b0 : (t352 == 1) = false := beq_eq_false_iff_ne.mpr c14
   have c14b1 : (t352 != 1) = true := bne_iff_ne.mpr c14
   by_cases c24 : t352 = 2
   ·rw [if_pos c24] at H
    have c24b0 : (t352 == 2) = true := beq_iff_eq.mpr c24
    have c24b1 : (t352 != 2) = false := bne_eq_false_iff_eq.mpr c24
    clear c24
    obtain ⟨y367, hy367⟩ : ∃ y_ : List ByteArray, y_ = (([(⟨#[10]⟩ : ByteArray), (⟨#[127]⟩ : ByteArray), (⟨#[49, 50, 51, 52, 53, 54, 55, 56, 57, 48, 49, 50, 51, 52, 53, 54, 55, 56, 57, 48, 49, 50, 51, 52, 53, 54, 55, 56, 57, 48, 49, 50, 51, 52, 53, 54, 55, 56, 57, 48, 49, 50, 51, 52, 53, 54, 55, 56, 57, 48, 49, 50, 51, 52, 53, 54, 55, 56, 57, 48, 49]⟩ : ByteArray)] : List ByteArray)) := ⟨_, rfl⟩
    replace H : ((spec_l00Src_text.f s0_0 t353 t354 y367).bind fun bt370 => (if a1_2.size + bt370.1.size ≤ 9223372036854775807 then (some (a1_0, a1_1, a1_2 ++ bt370.1, bt370.2.1, bt370.2.2)) else (none))) = some (r1, r2, r3, r4, r5) := by first | (rw [hy367]; with_reducible exact H) | (have H2_ := (Option.bind_some _ _).symm.trans H; rw [hy367]; with_reducible exact H2_) | (have H2_ := (Option.bind_some _ _).symm.trans H; with_reducible exact H2_) | with_reducible exact H | (rw [hy367]; exact H) | exact H
    have Ny367 := Aside0.mk hy367
    clear hy367
    replace H := Option.bind_eq_some_iff.mp H
    obtain ⟨⟨t370, t371, t372⟩, A250, H⟩ := H
    (try dsimp only at H)
    have A25 := Aside0.mk A250
    clear A250
    by_cases c26 : a1_2.size + t370.size ≤ 9223372036854775807
    ·rw [if_pos c26] at H
     have c26b0 := eq_true c26
     have c26b1 : decide (a1_2.size + t370.size ≤ 9223372036854775807) = true := decide_eq_true c26
     try have c26b2 : (9223372036854775807 < a1_2.size + t370.size) = False := eq_false (Nat.not_lt.2 c26)
     simp only [Option.some.injEq, Prod.mk.injEq] at H
     obtain ⟨rfl, rfl, rfl, rfl, rfl⟩ := H
     go_enter Tryd.func79, Tryd.ntmps79
     try go_wp2_with (first | ((with_reducible refine gate_callee (f := 77) rfl ?_); refine goesL_ (some 5) rfl rfl Tryd.func77 (by kernel_rfl) rfl #[.pointer (some ⟨g, 0, none⟩), .int .i64 3] rfl (by (try simp only [List.map_toArray, List.map_cons, List.map_nil]); first | done | rfl | (simp only [List.length_drop, List.length_take]; rfl)) ?_; (with_reducible refine (spec_l00Src_pick.calls g s0_0 s0_1 s0_2 3 t352 t353 t354 w0 _ ?side1 ?side2 A3.out).mono ?_); (case side1 => exact isk112_sp HI0); (case side2 => exact bwi112_sp); rintro e w28 ⟨rfl, hi, hb, hk⟩; refine ⟨_, rfl, ?_⟩; replace BK351 := Aside0.mk (KeepBut.blk hk (g' := gb351) (o := .cells #[.int .i64 a1_0, .string a1_1, .string a1_2] 26 (0, 0)) (by (with_reducible repeat (first | refine blk_drewN ?_ _ | refine blk_drew ?_ | refine blk_alloc ?_ _)); exact BK351.out) NB351_0.out (by simp)); replace HK := Aside0.mk (kt_ (kbx_ HK) hk); replace HB := Aside0.mk (hb); replace HI0 := Aside0.mk (hi); clear hb hk hi))
     replace BK351 := Aside0.mk (blk_drew BK351.out)
     replace HI0 := Aside0.mk (IsS112.drew HI0.out)
     replace HK := Aside0.mk (keep_drew HK.out)
     replace HB := Aside0.mk (below_drew1 HB.out)
     refine start_ (n := 11) (S := fun w' => w'.cell? ⟨gb351, 0, none⟩ = some (.int .i64 a1_0) ∧ w'.cell? ⟨gb351, 1, none⟩ = some (.string a1_1) ∧ w'.cell? ⟨gb351, 2, none⟩ = some (.string a1_2)) (ds := [10]) (fl 11 0) (by kernel_rfl) rfl rfl ⟨(blk_cell BK351.out 0).trans rfl, (blk_cell BK351.out 1).trans rfl, (blk_cell BK351.out 2).trans rfl⟩ (fun hHeld => ?_); refine with_tabW spec_l27Spoil.tab6 spec_l27Spoil.bits6 (fun HT_ HW_ => ?_)
     generalize w28.drew = w29 at BK351 HI0 HK HB hHeld ⊢
     refine pu_ (i := 0) (N := some 24) (fl 11 1) (any_of HT_.out (by kernel_rfl)) ?_
     refine pu_ (i := 1) (N := some 25) (fl 11 3) (any_of HT_.out (by kernel_rfl)) ?_
     refine pu_ (i := 2) (N := some 26) (fl 11 7) (any_of HT_.out (by kernel_rfl)) ?_
     refine pu_ (i := 4) (N := some 28) (fl 11 23) (any_of HT_.out (by kernel_rfl)) ?_
     refine take_ (i := 3) (N := some 27) (v := ?_) (a' := ?_) (fl 11 31) rfl rfl (take_ofW HT_.out HW_.out (by kernel_rfl)) (fun _ _ _ h => h) (Or.inl ⟨by rfl, ?_⟩) hHeld ?_ ?_
     rotate_left
     ·rintro w' ⟨s0, s1, s2⟩
      go_simp
      with_reducible rfl
     rotate_left
     ·simp only [Act.put, List.setIfInBounds_toArray, List.set_cons_zero, List.set_cons_succ, i64_w, i32_w]
      rfl
     refine one_ (i := 5) (N := some 29) (fl 11 63) rfl rfl (one_of HT_.out (by kernel_rfl)) (by decide) (fun K hK => ?_)
     refine Kd.R_lit_step Kd.string _ 9 ?hg (N := 29) ?hd (xs := ([(⟨#[10]⟩ : ByteArray), (⟨#[127]⟩ : ByteArray), (⟨#[49, 50, 51, 52, 53, 54, 55, 56, 57, 48, 49, 50, 51, 52, 53, 54, 55, 56, 57, 48, 49, 50, 51, 52, 53, 54, 55, 56, 57, 48, 49, 50, 51, 52, 53, 54, 55, 56, 57, 48, 49, 50, 51, 52, 53, 54, 55, 56, 57, 48, 49, 50, 51, 52, 53, 54, 55, 56, 57, 48, 49]⟩ : ByteArray)] : List ByteArray)) (inner := [.string (⟨#[10]⟩ : ByteArray), .string (⟨#[127]⟩ : ByteArray), .string (⟨#[49, 50, 51, 52, 53, 54, 55, 56, 57, 48, 49, 50, 51, 52, 53, 54, 55, 56, 57, 48, 49, 50, 51, 52, 53, 54, 55, 56, 57, 48, 49, 50, 51, 52, 53, 54, 55, 56, 57, 48, 49, 50, 51, 52, 53, 54, 55, 56, 57, 48, 49, 50, 51, 52, 53, 54, 55, 56, 57, 48, 49]⟩ : ByteArray)]) (ok := fun _ => True) (okp := fun _ => True) ?hr ?hp (fun _ hk => hk) trivial (Below.refl _ _) (Nat.le_refl _) (by simp) ?_; (case hd => rfl); (case hg => rfl); (case hr => first | (go_simp; done) | (go_simp; rfl)); (case hp => exact (Reps.one (show Kd.M Kd.string _ _ _ (⟨#[10]⟩ : ByteArray) [.string (⟨#[10]⟩ : ByteArray)] from rfl) (Reps.one (show Kd.M Kd.string _ _ _ (⟨#[127]⟩ : ByteArray) [.string (⟨#[127]⟩ : ByteArray)] from rfl) (Reps.one (show Kd.M Kd.string _ _ _ (⟨#[49, 50, 51, 52, 53, 54, 55, 56, 57, 48, 49, 50, 51, 52, 53, 54, 55, 56, 57, 48, 49, 50, 51, 52, 53, 54, 55, 56, 57, 48, 49, 50, 51, 52, 53, 54, 55, 56, 57, 48, 49, 50, 51, 52, 53, 54, 55, 56, 57, 48, 49, 50, 51, 52, 53, 54, 55, 56, 57, 48, 49]⟩ : ByteArray) [.string (⟨#[49, 50, 51, 52, 53, 54, 55, 56, 57, 48, 49, 50, 51, 52, 53, 54, 55, 56, 57, 48, 49, 50, 51, 52, 53, 54, 55, 56, 57, 48, 49, 50, 51, 52, 53, 54, 55, 56, 57, 48, 49, 50, 51, 52, 53, 54, 55, 56, 57, 48, 49, 50, 51, 52, 53, 54, 55, 56, 57, 48, 49]⟩ : ByteArray)] from rfl) (Reps.none _ _)))))
     intro v368 w30 ho31 hb hg_ hnew_
     clear hg_ hnew_
     (first | rw [← Ny367.out] at ho31 | (simp only [Int.reduceToNat] at ho31; rw [← Ny367.out] at ho31))
     have HO369 := Aside0.mk (Kd.R_lower ho31 (keep_size (w := w) (g := g) (row := some gb351) (kbx_ HK)))
     replace BK351 := bkb_ BK351 hb
     replace HK := Aside0.mk (kt_ (kbx_ HK) (KeepBut.of_below hb g none))
     replace HB := Aside0.mk (below_step bwi112_sp hb)
     replace HI0 := Aside0.mk (IsS112.below (isk112_sp HI0) hb)
     clear hb ho31
     obtain ⟨Ao32, co32, eo32⟩ := Kd.R_slice HO369.out
     (first | subst eo32 | (injection eo32 with f1_ f2_ f3_; have f4_ := f1_.symm; have f5_ := f3_.symm; clear f1_ f2_ f3_; subst f4_; subst f5_))
     refine hK.out _ _ ⟨(blk_cell BK351.out 0).trans rfl, (blk_cell BK351.out 1).trans rfl, (blk_cell BK351.out 2).trans rfl⟩ (fun hHeld => ?_)
     clear hK K
     refine norm_ (a' := ?_) ?_ ?_
     rotate_left
     ·show Act.put _ (some 29) _ = _
      simp only [Act.put, List.setIfInBounds_toArray, List.set_cons_zero, List.set_cons_succ, i64_w, i32_w]
      rfl
     refine one_ (i := 6) (N := some 30) (fl 11 127) rfl rfl (one_of HT_.out (by kernel_rfl)) (by decide) (fun K hK => ?_)
     refine goes_ Tryd.func82 (by kernel_rfl) rfl #[.pointer (some ⟨g, 0, none⟩), .slice Ao32 y367.length co32] (by rfl) rfl rfl (by (try simp only [List.map_toArray, List.map_cons, List.map_nil]); first | done | rfl | (simp only [List.length_drop, List.length_take]; rfl)) ?_
     with_reducible refine (spec_l00Src_text.calls g s0_0 t353 t354 _ _ y367 t370 t371 t372 w0 _ ?side1 ?side2 ?side3 ?side4 ?side5 A25.out).mono ?_
     (case side1 => exact isk112_sp HI0)
     (case side2 => exact bwi112_sp)
     (case side3 => repeat (first | exact (Kd.R_reads' HO369.out).2.2 | (with_reducible refine Kd.C_alloc ?_ _) | (with_reducible refine Kd.C_drewN ?_ _) | (with_reducible refine Kd.C_drew ?_)))
     (case side4 => exact (Kd.R_reads' HO369.out).2.1)
     (case side5 => exact far_slice (IsS112.own_ne HI0.out HO369.out (by decide)))
     rintro e w33 ⟨rfl, hi, hb, hk⟩
     refine ⟨_, rfl, ?_⟩
     replace BK351 := Aside0.mk (KeepBut.blk hk (g' := gb351) (o := .cells #[.int .i64 a1_0, .string a1_1, .string a1_2] 26 (0, 0)) (by (with_reducible repeat (first | refine blk_drewN ?_ _ | refine blk_drew ?_ | refine blk_alloc ?_ _)); exact BK351.out) NB351_0.out (by simp))
     replace HO369 := Aside0.mk (Kd.R_mono (Kd.R_keep (IsS112.apart (show IsS112 w0 _ g s0_0 t353 t354 from by repeat (first | (with_reducible first | exact HI0.out | apply IsS112.alloc | apply IsS112.drewN | apply IsS112.drew | apply IsS112.set_1 | apply IsS112.set_2 | refine IsS112.far ?_ NB0_351.out _) | exact HI0.out)) (by (with_reducible repeat (first | apply Kd.R_alloc | apply Kd.R_drewN | apply Kd.R_drew)); exact HO369.out) (by decide)) hk (fun _ h => h.2)) (fun _ h => h.1))
     replace HK := Aside0.mk (kt_ (kbx_ HK) hk)
     replace HB := Aside0.mk (hb)
     replace HI0 := Aside0.mk (hi)
     (try clear hb);(try clear hb2);(try clear hk);(try clear hi)
     refine hK.out _ _ ⟨(blk_cell BK351.out 0).trans rfl, (blk_cell BK351.out 1).trans rfl, (blk_cell BK351.out 2).trans rfl⟩ (fun hHeld => ?_)
     clear hK K
     refine norm_ (a' := ?_) ?_ ?_
     rotate_left
     ·show Act.put _ (some 30) _ = _
      simp only [Act.put, List.setIfInBounds_toArray, List.set_cons_zero, List.set_cons_succ, i64_w, i32_w]
      rfl
     refine pu_ (i := 7) (N := some 31) (fl 11 255) (any_of HT_.out (by kernel_rfl)) ?_
     refine pu_ (i := 8) (N := some 32) (fl 11 511) (any_of HT_.out (by kernel_rfl)) ?_
     refine pu_ (i := 9) (N := some 33) (fl 11 1023) (any_of HT_.out (by kernel_rfl)) ?_
     refine last_ (i := 10) (N := none) (fl 11 2047) rfl rfl (one_of HT_.out (by kernel_rfl)) (by decide) (fun K hK => ?_)
     have hs34 : w33.cell? ⟨gb351, 2, none⟩ = some (.string a1_2) := (blk_cell BK351.out 2).trans rfl
     have hfs34 := blk_frozen BK351.out 2
     refine skip_ (w1 := ?_) (by rfl) rfl ?_ ?_
     rotate_left
     ·go_simp
      rfl
     refine hK.out _ _ ?_
     clear hK K
     refine done_ (done_of HT_.out (by kernel_rfl)) ?_
     have hnb35 := NB351_0.out
     have hnc35 := NB0_351.out
     have hcz36_0 := b30_ BK351
     have hcz36_1 := b31_ BK351
     have hcz36_2 := b32_ BK351
     have hfz36_0 := blk_frozen BK351.out 0
     have hfz36_1 := blk_frozen BK351.out 1
     have hfz36_2 := blk_frozen BK351.out 2
     try go_wp2
     go_end0
     exact ⟨rfl, isk112_sp HI0, (by first | exact BK351.out | exact blk_put BK351.out 0 _ rfl | exact blk_put BK351.out 1 _ rfl | exact blk_put BK351.out 2 _ rfl), bwi112_sp, kbx_ HK⟩
    ·rw [if_neg c26] at H
     exact absurd H (by simp)
   ·rw [if_neg c24] at H
    have c24b0 : (t352 == 2) = false := beq_eq_false_iff_ne.mpr c24
    have c24b1 : (t352 != 2) = true := bne_iff_ne.mpr c24
    simp only [Option.some.injEq, Prod.mk.injEq] at H
    obtain ⟨rfl, rfl, rfl, rfl, rfl⟩ := H
    go_enter Tryd.func79, Tryd.ntmps79
    go_wp2_with (first | ((with_reducible refine gate_callee (f := 77) rfl ?_); refine goesL_ (some 5) rfl rfl Tryd.func77 (by kernel_rfl) rfl #[.pointer (some ⟨g, 0, none⟩), .int .i64 3] rfl (by (try simp only [List.map_toArray, List.map_cons, List.map_nil]); first | done | rfl | (simp only [List.length_drop, List.length_take]; rfl)) ?_; (with_reducible refine (spec_l00Src_pick.calls g s0_0 s0_1 s0_2 3 t352 t353 t354 w0 _ ?side1 ?side2 A3.out).mono ?_); (case side1 => exact isk112_sp HI0); (case side2 => exact bwi112_sp); rintro e w38 ⟨rfl, hi, hb, hk⟩; refine ⟨_, rfl, ?_⟩; replace BK351 := Aside0.mk (KeepBut.blk hk (g' := gb351) (o := .cells #[.int .i64 a1_0, .string a1_1, .string a1_2] 26 (0, 0)) (by (with_reducible repeat (first | refine blk_drewN ?_ _ | refine blk_drew ?_ | refine blk_alloc ?_ _)); exact BK351.out) NB351_0.out (by simp)); replace HK := Aside0.mk (kt_ (kbx_ HK) hk); replace HB := Aside0.mk (hb); replace HI0 := Aside0.mk (hi); clear hb hk hi; have hnb39 := NB351_0.out; have hnc39 := NB0_351.out; have hcz40_0 := b30_ BK351; have hcz40_1 := b31_ BK351; have hcz40_2 := b32_ BK351; have hfz40_0 := blk_frozen BK351.out 0; have hfz40_1 := blk_frozen BK351.out 1; have hfz40_2 := blk_frozen BK351.out 2))
    go_end0
    exact ⟨rfl, isk112_sp HI0, (by first | exact BK351.out | exact blk_put BK351.out 0 _ rfl | exact blk_put BK351.out 1 _ rfl | exact blk_put BK351.out 2 _ rfl), bwi112_sp, kbx_ HK⟩
end
section
open Go.Proofs.YtlcgonaapmmnkaaDoor.Base (bwl_ bst_ bsz_ bkb_ nbl_ nbr_ kbl_ bkm_)
open Go.Proofs.YtlcgonaapmmnkaaDoor.Sq (fl pu_ gl_ b20_ b21_ b30_ b31_ b32_ od_ rr_ be_)
def spec_DrawWriteEntry.f (k : Nat) (l0 : List Int) : Option (ByteArray × ByteArray × Int × ByteArray × ByteArray) := (spec_l00From.f l0).bind fun bt375 => ((spec_l27Draw.f k bt375.1 bt375.2.1 bt375.2.2).bind fun bt379 => ((spec_l27New.f bt375.1 bt379.2.2.1 bt379.2.2.2).bind fun bt384 => ((spec_l00Src_one.f bt375.1 bt384.2.2.2.1 bt384.2.2.2.2 8).bind fun bt390 => (if bt390.1 = true then ((spec_l27Spoil.f bt375.1 bt390.2.1 bt390.2.2 bt384.1 bt384.2.1 bt384.2.2.1).bind fun bt399 => (some (bt379.1, bt379.2.1, bt399.1, bt399.2.1, bt399.2.2.1))) else (some (bt379.1, bt379.2.1, bt384.1, bt384.2.1, bt384.2.2.1))))))
theorem spec_DrawWriteEntry.mono : ∀ a0 k, LeO (spec_DrawWriteEntry.f k a0) (spec_DrawWriteEntry.f (k + 1) a0) := by
 intro a0 k
 unfold spec_DrawWriteEntry.f
 repeat' first
   | (with_reducible exact spec_l27Draw.mono _ _ _ _)
   | (with_reducible exact LeO.refl _)
   | (with_reducible exact LeO.none _)
   | (with_reducible refine LeO.ite ?_ ?_)
   | (with_reducible refine LeO.bind ?_ (fun _ => ?_))
   | exact spec_l27Draw.mono _ _ _ _
   | exact LeO.none _
   | refine LeO.ite ?_ ?_
   | refine LeO.bind ?_ (fun _ => ?_)
set_option maxHeartbeats 8000000 in
set_option maxRecDepth 100000 in
theorem spec_DrawWriteEntry.calls (k : Nat) (A0 : Option Addr) (c0 : Nat) (l0 : List Int) (r1 : ByteArray) (r2 : ByteArray) (r3 : Int) (r4 : ByteArray) (r5 : ByteArray) (w : World) (hr0 : Kd.C (Kd.int .u8) w A0 l0.length l0) (hc0 : l0.length ≤ c0) (h : spec_DrawWriteEntry.f k l0 = some (r1, r2, r3, r4, r5)) :
  Calls Tryd.prog 45 #[.slice A0 l0.length c0] w fun e w' => e = .returned (.tuple #[.agg #[.string r1, .string r2], .agg #[.int .i64 r3, .string r4, .string r5]]) ∧ Below w.heap.size w w' := by
 have hu32 := Tryd.underlying32
 have hu26 := Tryd.underlying26
 have HR0 := Aside0.mk hr0
 have HC0 := Aside0.mk hc0
 clear hr0 hc0
 have HB := Aside0.mk (Below.refl w.heap.size w)
 have H : ((spec_l00From.f l0).bind fun bt375 => ((spec_l27Draw.f k bt375.1 bt375.2.1 bt375.2.2).bind fun bt379 => ((spec_l27New.f bt375.1 bt379.2.2.1 bt379.2.2.2).bind fun bt384 => ((spec_l00Src_one.f bt375.1 bt384.2.2.2.1 bt384.2.2.2.2 8).bind fun bt390 => (if bt390.1 = true then ((spec_l27Spoil.f bt375.1 bt390.2.1 bt390.2.2 bt384.1 bt384.2.1 bt384.2.2.1).bind fun bt399 => (some (bt379.1, bt379.2.1, bt399.1, bt399.2.1, bt399.2.2.1))) else (some (bt379.1, bt379.2.1, bt384.1, bt384.2.1, bt384.2.2.1))))))) = some (r1, r2, r3, r4, r5) := h
 clear h
 replace H := Option.bind_eq_some_iff.mp H
 obtain ⟨⟨t375, t376, t377⟩, A20, H⟩ := H
 (try dsimp only at H)
 have A2 := Aside0.mk A20
 clear A20
 replace H := Option.bind_eq_some_iff.mp H
 obtain ⟨⟨t379, t380, t381, t382⟩, A30, H⟩ := H
 (try dsimp only at H)
 have A3 := Aside0.mk A30
 clear A30
 replace H := Option.bind_eq_some_iff.mp H
 obtain ⟨⟨t384, t385, t386, t387, t388⟩, A40, H⟩ := H
 (try dsimp only at H)
 have A4 := Aside0.mk A40
 clear A40
 replace H := Option.bind_eq_some_iff.mp H
 obtain ⟨⟨t390, t391, t392⟩, A50, H⟩ := H
 (try dsimp only at H)
 have A5 := Aside0.mk A50
 clear A50
 by_cases c6 : t390 = true
 ·subst c6
  rw [if_pos rfl] at H
  replace H := Option.bind_eq_some_iff.mp H
  obtain ⟨⟨u1, u2, u3, u4, u5⟩, A60, H⟩ := H
  (try dsimp only at H)
  have A6 := Aside0.mk A60
  clear A60
  simp only [Option.some.injEq, Prod.mk.injEq] at H
  obtain ⟨rfl, rfl, rfl, rfl, rfl⟩ := H
  go_enter Tryd.func45, Tryd.ntmps45
  try go_wp2_with (first | ((with_reducible refine gate_dst (N := 2) rfl ?_); refine be_ 2 #[.string (⟨#[]⟩ : ByteArray), .string (⟨#[]⟩ : ByteArray)] 32 ?_; intro gb373 hg w7 hbox hb; have BK373 := Aside0.mk (hbox); have GW373 := bsz_ hg; have GE373 := bsz_ hg; replace HB := bst_ hb; clear hb hbox hg) | ((with_reducible refine gate_dst (N := 3) rfl ?_); refine be_ 3 #[.int .i64 0, .string (⟨#[]⟩ : ByteArray), .string (⟨#[]⟩ : ByteArray)] 26 ?_; intro gb374 hg w8 hbox hb; have BK374 := Aside0.mk (hbox); have GW374 := bsz_ hg; have GE374 := bsz_ hg; replace HB := bst_ hb; have NB373_374 := nbl_ BK373 hg; have NB374_373 := nbr_ BK373 hg; replace BK373 := bkb_ BK373 hb; clear hb hbox hg) | ((with_reducible refine gate_callee (f := 73) rfl ?_); refine goesL_ (some 8) rfl rfl Tryd.func73 (by kernel_rfl) rfl #[.slice A0 l0.length c0] rfl (by (try simp only [List.map_toArray, List.map_cons, List.map_nil]); first | done | rfl | (simp only [List.length_drop, List.length_take]; rfl)) ?_; (with_reducible refine (spec_l00From.calls _ _ l0 t375 t376 t377 w _ ?side1 ?side2 ?side3 A2.out).mono ?_); (case side1 => exact bwl_); (case side2 => exact HR0.out); (case side3 => exact HC0.out); rintro e w9 ⟨g378, rfl, hi, hb, hb2⟩; refine ⟨_, rfl, ?_⟩; replace HB := Aside0.mk (hb); have HI378 := Aside0.mk (hi); have NB378_373 := Aside0.mk (IsS112.ne_blk hi (blk_below (g := gb373) (o := .cells #[.string (⟨#[]⟩ : ByteArray), .string (⟨#[]⟩ : ByteArray)] 32 (0, 0)) (by (with_reducible repeat (first | refine blk_drewN ?_ _ | refine blk_drew ?_ | refine blk_alloc ?_ _)); exact BK373.out) hb2) (by decide)); have NB373_378 := Aside0.mk (Ne.symm (IsS112.ne_blk hi (blk_below (g := gb373) (o := .cells #[.string (⟨#[]⟩ : ByteArray), .string (⟨#[]⟩ : ByteArray)] 32 (0, 0)) (by (with_reducible repeat (first | refine blk_drewN ?_ _ | refine blk_drew ?_ | refine blk_alloc ?_ _)); exact BK373.out) hb2) (by decide))); replace BK373 := bkb_ BK373 hb2; have NB378_374 := Aside0.mk (IsS112.ne_blk hi (blk_below (g := gb374) (o := .cells #[.int .i64 0, .string (⟨#[]⟩ : ByteArray), .string (⟨#[]⟩ : ByteArray)] 26 (0, 0)) (by (with_reducible repeat (first | refine blk_drewN ?_ _ | refine blk_drew ?_ | refine blk_alloc ?_ _)); exact BK374.out) hb2) (by decide)); have NB374_378 := Aside0.mk (Ne.symm (IsS112.ne_blk hi (blk_below (g := gb374) (o := .cells #[.int .i64 0, .string (⟨#[]⟩ : ByteArray), .string (⟨#[]⟩ : ByteArray)] 26 (0, 0)) (by (with_reducible repeat (first | refine blk_drewN ?_ _ | refine blk_drew ?_ | refine blk_alloc ?_ _)); exact BK374.out) hb2) (by decide))); replace BK374 := bkb_ BK374 hb2; clear hb hb2 hi) | ((with_reducible refine gate_callee (f := 74) rfl ?_); refine goesL_ (some 10) rfl rfl Tryd.func74 (by kernel_rfl) rfl #[.pointer (some ⟨g378, 0, none⟩)] rfl (by (try simp only [List.map_toArray, List.map_cons, List.map_nil]); first | done | rfl | (simp only [List.length_drop, List.length_take]; rfl)) ?_; (with_reducible refine (spec_l27Draw.calls k g378 t375 t376 t377 t379 t380 t381 t382 w _ ?side1 ?side2 A3.out).mono ?_); (case side1 => exact isk112_sp HI378); (case side2 => exact bwi112_sp); rintro e w10 ⟨rfl, hi, hb, hk⟩; refine ⟨_, rfl, ?_⟩; replace BK373 := Aside0.mk (KeepBut.blk hk (g' := gb373) (o := .cells #[.string (⟨#[]⟩ : ByteArray), .string (⟨#[]⟩ : ByteArray)] 32 (0, 0)) (by (with_reducible repeat (first | refine blk_drewN ?_ _ | refine blk_drew ?_ | refine blk_alloc ?_ _)); exact BK373.out) NB373_378.out (by simp)); replace BK374 := Aside0.mk (KeepBut.blk hk (g' := gb374) (o := .cells #[.int .i64 0, .string (⟨#[]⟩ : ByteArray), .string (⟨#[]⟩ : ByteArray)] 26 (0, 0)) (by (with_reducible repeat (first | refine blk_drewN ?_ _ | refine blk_drew ?_ | refine blk_alloc ?_ _)); exact BK374.out) NB374_378.out (by simp)); replace HB := Aside0.mk (hb); replace HI378 := Aside0.mk (hi); clear hb hk hi) | ((with_reducible refine gate_dst (N := 5) rfl ?_); refine be_ 5 #[.string (⟨#[]⟩ : ByteArray), .string (⟨#[]⟩ : ByteArray)] 32 ?_; intro gb383 hg w11 hbox hb; have BK383 := Aside0.mk (hbox); have GW383 := Aside0.mk ((by rw [hg]; exact (below_size bwi112_sp) : w.heap.size ≤ gb383)); have GE383 := Aside0.mk ((by rw [hg]; exact (below_size bwi112_sp) : w.heap.size ≤ gb383)); replace HB := Aside0.mk (below_step bwi112_sp hb); have NB373_383 := nbl_ BK373 hg; have NB383_373 := nbr_ BK373 hg; replace BK373 := bkb_ BK373 hb; have NB374_383 := nbl_ BK374 hg; have NB383_374 := nbr_ BK374 hg; replace BK374 := bkb_ BK374 hb; have NB378_383 := Aside0.mk ((by rw [hg]; exact Nat.ne_of_lt (IsS112.lt (show IsS112 w _ g378 t375 t381 t382 from by repeat (first | (with_reducible first | exact HI378.out | apply IsS112.alloc | apply IsS112.drewN | apply IsS112.drew | apply IsS112.set_1 | apply IsS112.set_2 | refine IsS112.far ?_ NB378_373.out _ | refine IsS112.far ?_ NB378_374.out _) | exact HI378.out))) : g378 ≠ gb383)); have NB383_378 := Aside0.mk ((by rw [hg]; exact Nat.ne_of_gt (IsS112.lt (show IsS112 w _ g378 t375 t381 t382 from by repeat (first | (with_reducible first | exact HI378.out | apply IsS112.alloc | apply IsS112.drewN | apply IsS112.drew | apply IsS112.set_1 | apply IsS112.set_2 | refine IsS112.far ?_ NB378_373.out _ | refine IsS112.far ?_ NB378_374.out _) | exact HI378.out))) : gb383 ≠ g378)); replace HI378 := Aside0.mk (IsS112.below (isk112_sp HI378) hb); clear hb hbox hg; have hnb12 := NB383_373.out; have hnc12 := NB373_383.out; have hnb13 := NB383_374.out; have hnc13 := NB374_383.out; have hnb14 := NB383_378.out; have hnc14 := NB378_383.out; have hcz15_0 := b20_ BK383; have hcz15_1 := b21_ BK383; have hfz15_0 := blk_frozen BK383.out 0; have hfz15_1 := blk_frozen BK383.out 1) | ((with_reducible refine gate_callee (f := 78) rfl ?_); refine goesL_ (some 12) rfl rfl Tryd.func78 (by kernel_rfl) rfl #[.pointer (some ⟨g378, 0, none⟩)] rfl (by (try simp only [List.map_toArray, List.map_cons, List.map_nil]); first | done | rfl | (simp only [List.length_drop, List.length_take]; rfl)) ?_; (with_reducible refine (spec_l27New.calls g378 t375 t381 t382 t384 t385 t386 t387 t388 w _ ?side1 ?side2 A4.out).mono ?_); (case side1 => exact isk112_sp HI378); (case side2 => exact bwi112_sp); rintro e w16 ⟨rfl, hi, hb, hk⟩; refine ⟨_, rfl, ?_⟩; replace BK373 := Aside0.mk (KeepBut.blk hk (g' := gb373) (o := .cells #[.string (⟨#[]⟩ : ByteArray), .string (⟨#[]⟩ : ByteArray)] 32 (0, 0)) (by (with_reducible repeat (first | refine blk_drewN ?_ _ | refine blk_drew ?_ | refine blk_alloc ?_ _)); refine blk_far ?_ NB373_383.out _; (with_reducible repeat (first | refine blk_drewN ?_ _ | refine blk_drew ?_ | refine blk_alloc ?_ _)); refine blk_far ?_ NB373_383.out _; (with_reducible repeat (first | refine blk_drewN ?_ _ | refine blk_drew ?_ | refine blk_alloc ?_ _)); exact BK373.out) NB373_378.out (by simp)); replace BK374 := Aside0.mk (KeepBut.blk hk (g' := gb374) (o := .cells #[.int .i64 0, .string (⟨#[]⟩ : ByteArray), .string (⟨#[]⟩ : ByteArray)] 26 (0, 0)) (by (with_reducible repeat (first | refine blk_drewN ?_ _ | refine blk_drew ?_ | refine blk_alloc ?_ _)); refine blk_far ?_ NB374_383.out _; (with_reducible repeat (first | refine blk_drewN ?_ _ | refine blk_drew ?_ | refine blk_alloc ?_ _)); refine blk_far ?_ NB374_383.out _; (with_reducible repeat (first | refine blk_drewN ?_ _ | refine blk_drew ?_ | refine blk_alloc ?_ _)); exact BK374.out) NB374_378.out (by simp)); replace BK383 := Aside0.mk (KeepBut.blk hk (g' := gb383) (o := .cells #[.string t379, .string t380] 32 (0, 0)) (by (with_reducible repeat (first | refine blk_drewN ?_ _ | refine blk_drew ?_ | refine blk_alloc ?_ _)); refine blk_put (cs := #[.string t379, .string (⟨#[]⟩ : ByteArray)]) ?_ 1 _ rfl; (with_reducible repeat (first | refine blk_drewN ?_ _ | refine blk_drew ?_ | refine blk_alloc ?_ _)); refine blk_put (cs := #[.string (⟨#[]⟩ : ByteArray), .string (⟨#[]⟩ : ByteArray)]) ?_ 0 _ rfl; (with_reducible repeat (first | refine blk_drewN ?_ _ | refine blk_drew ?_ | refine blk_alloc ?_ _)); exact BK383.out) NB383_378.out (by simp)); replace HB := Aside0.mk (hb); replace HI378 := Aside0.mk (hi); clear hb hk hi) | ((with_reducible refine gate_dst (N := 6) rfl ?_); refine be_ 6 #[.int .i64 0, .string (⟨#[]⟩ : ByteArray), .string (⟨#[]⟩ : ByteArray)] 26 ?_; intro gb389 hg w17 hbox hb; have BK389 := Aside0.mk (hbox); have GW389 := Aside0.mk ((by rw [hg]; exact (below_size bwi112_sp) : w.heap.size ≤ gb389)); have GE389 := Aside0.mk ((by rw [hg]; exact (below_size bwi112_sp) : w.heap.size ≤ gb389)); replace HB := Aside0.mk (below_step bwi112_sp hb); have NB373_389 := nbl_ BK373 hg; have NB389_373 := nbr_ BK373 hg; replace BK373 := bkb_ BK373 hb; have NB374_389 := nbl_ BK374 hg; have NB389_374 := nbr_ BK374 hg; replace BK374 := bkb_ BK374 hb; have NB383_389 := nbl_ BK383 hg; have NB389_383 := nbr_ BK383 hg; replace BK383 := bkb_ BK383 hb; have NB378_389 := Aside0.mk ((by rw [hg]; exact Nat.ne_of_lt (IsS112.lt (show IsS112 w _ g378 t375 t387 t388 from by repeat (first | (with_reducible first | exact HI378.out | apply IsS112.alloc | apply IsS112.drewN | apply IsS112.drew | apply IsS112.set_1 | apply IsS112.set_2 | refine IsS112.far ?_ NB378_373.out _ | refine IsS112.far ?_ NB378_374.out _ | refine IsS112.far ?_ NB378_383.out _) | exact HI378.out))) : g378 ≠ gb389)); have NB389_378 := Aside0.mk ((by rw [hg]; exact Nat.ne_of_gt (IsS112.lt (show IsS112 w _ g378 t375 t387 t388 from by repeat (first | (with_reducible first | exact HI378.out | apply IsS112.alloc | apply IsS112.drewN | apply IsS112.drew | apply IsS112.set_1 | apply IsS112.set_2 | refine IsS112.far ?_ NB378_373.out _ | refine IsS112.far ?_ NB378_374.out _ | refine IsS112.far ?_ NB378_383.out _) | exact HI378.out))) : gb389 ≠ g378)); replace HI378 := Aside0.mk (IsS112.below (isk112_sp HI378) hb); clear hb hbox hg; have hnb18 := NB389_373.out; have hnc18 := NB373_389.out; have hnb19 := NB389_374.out; have hnc19 := NB374_389.out; have hnb20 := NB389_383.out; have hnc20 := NB383_389.out; have hnb21 := NB389_378.out; have hnc21 := NB378_389.out; have hcz22_0 := b30_ BK389; have hcz22_1 := b31_ BK389; have hcz22_2 := b32_ BK389; have hfz22_0 := blk_frozen BK389.out 0; have hfz22_1 := blk_frozen BK389.out 1; have hfz22_2 := blk_frozen BK389.out 2) | ((with_reducible refine gate_callee (f := 75) rfl ?_); refine goesL_ (some 14) rfl rfl Tryd.func75 (by kernel_rfl) rfl #[.pointer (some ⟨g378, 0, none⟩), .int .i64 8] rfl (by (try simp only [List.map_toArray, List.map_cons, List.map_nil]); first | done | rfl | (simp only [List.length_drop, List.length_take]; rfl)) ?_; (with_reducible refine (spec_l00Src_one.calls g378 t375 t387 t388 8 true t391 t392 w _ ?side1 ?side2 A5.out).mono ?_); (case side1 => exact isk112_sp HI378); (case side2 => exact bwi112_sp); rintro e w23 ⟨rfl, hi, hb, hk⟩; refine ⟨_, rfl, ?_⟩; replace BK373 := Aside0.mk (KeepBut.blk hk (g' := gb373) (o := .cells #[.string (⟨#[]⟩ : ByteArray), .string (⟨#[]⟩ : ByteArray)] 32 (0, 0)) (by (with_reducible repeat (first | refine blk_drewN ?_ _ | refine blk_drew ?_ | refine blk_alloc ?_ _)); refine blk_far ?_ NB373_389.out _; (with_reducible repeat (first | refine blk_drewN ?_ _ | refine blk_drew ?_ | refine blk_alloc ?_ _)); refine blk_far ?_ NB373_389.out _; (with_reducible repeat (first | refine blk_drewN ?_ _ | refine blk_drew ?_ | refine blk_alloc ?_ _)); refine blk_far ?_ NB373_389.out _; (with_reducible repeat (first | refine blk_drewN ?_ _ | refine blk_drew ?_ | refine blk_alloc ?_ _)); exact BK373.out) NB373_378.out (by simp)); replace BK374 := Aside0.mk (KeepBut.blk hk (g' := gb374) (o := .cells #[.int .i64 0, .string (⟨#[]⟩ : ByteArray), .string (⟨#[]⟩ : ByteArray)] 26 (0, 0)) (by (with_reducible repeat (first | refine blk_drewN ?_ _ | refine blk_drew ?_ | refine blk_alloc ?_ _)); refine blk_far ?_ NB374_389.out _; (with_reducible repeat (first | refine blk_drewN ?_ _ | refine blk_drew ?_ | refine blk_alloc ?_ _)); refine blk_far ?_ NB374_389.out _; (with_reducible repeat (first | refine blk_drewN ?_ _ | refine blk_drew ?_ | refine blk_alloc ?_ _)); refine blk_far ?_ NB374_389.out _; (with_reducible repeat (first | refine blk_drewN ?_ _ | refine blk_drew ?_ | refine blk_alloc ?_ _)); exact BK374.out) NB374_378.out (by simp)); replace BK383 := Aside0.mk (KeepBut.blk hk (g' := gb383) (o := .cells #[.string t379, .string t380] 32 (0, 0)) (by (with_reducible repeat (first | refine blk_drewN ?_ _ | refine blk_drew ?_ | refine blk_alloc ?_ _)); refine blk_far ?_ NB383_389.out _; (with_reducible repeat (first | refine blk_drewN ?_ _ | refine blk_drew ?_ | refine blk_alloc ?_ _)); refine blk_far ?_ NB383_389.out _; (with_reducible repeat (first | refine blk_drewN ?_ _ | refine blk_drew ?_ | refine blk_alloc ?_ _)); refine blk_far ?_ NB383_389.out _; (with_reducible repeat (first | refine blk_drewN ?_ _ | refine blk_drew ?_ | refine blk_alloc ?_ _)); exact BK383.out) NB383_378.out (by simp)); replace BK389 := Aside0.mk (KeepBut.blk hk (g' := gb389) (o := .cells #[.int .i64 t384, .string t385, .string t386] 26 (0, 0)) (by (with_reducible repeat (first | refine blk_drewN ?_ _ | refine blk_drew ?_ | refine blk_alloc ?_ _)); refine blk_put (cs := #[.int .i64 t384, .string t385, .string (⟨#[]⟩ : ByteArray)]) ?_ 2 _ rfl; (with_reducible repeat (first | refine blk_drewN ?_ _ | refine blk_drew ?_ | refine blk_alloc ?_ _)); refine blk_put (cs := #[.int .i64 t384, .string (⟨#[]⟩ : ByteArray), .string (⟨#[]⟩ : ByteArray)]) ?_ 1 _ rfl; (with_reducible repeat (first | refine blk_drewN ?_ _ | refine blk_drew ?_ | refine blk_alloc ?_ _)); refine blk_put (cs := #[.int .i64 0, .string (⟨#[]⟩ : ByteArray), .string (⟨#[]⟩ : ByteArray)]) ?_ 0 _ rfl; (with_reducible repeat (first | refine blk_drewN ?_ _ | refine blk_drew ?_ | refine blk_alloc ?_ _)); exact BK389.out) NB389_378.out (by simp)); replace HB := Aside0.mk (hb); replace HI378 := Aside0.mk (hi); clear hb hk hi) | ((with_reducible refine gate_callee (f := 79) rfl ?_); refine gl_ (some 16) Tryd.func79 #[.pointer (some ⟨g378, 0, none⟩), .pointer (some ⟨gb389, 0, none⟩)] ?_; refine Calls.mono (spec_l27Spoil.calls g378 gb389 t375 t391 t392 t384 t385 t386 u1 u2 u3 u4 u5 w _ (isk112_sp HI378) bwi112_sp (Aside0.out (bkm_ BK389)) GE389.out NB378_389.out A6.out) ?_; rintro e w90 ⟨rfl, hi, hx, hb, hk⟩; refine ⟨_, rfl, ?_⟩; replace BK373 := Aside0.mk ((hk.2 gb373 (blk_lt (Aside0.out (bkm_ BK373))) NB373_378.out (fun e => NB373_389.out (Option.some.inj e))).trans (Aside0.out (bkm_ BK373))); replace BK374 := Aside0.mk ((hk.2 gb374 (blk_lt (Aside0.out (bkm_ BK374))) NB374_378.out (fun e => NB374_389.out (Option.some.inj e))).trans (Aside0.out (bkm_ BK374))); replace BK383 := Aside0.mk ((hk.2 gb383 (blk_lt (Aside0.out (bkm_ BK383))) NB383_378.out (fun e => NB383_389.out (Option.some.inj e))).trans (Aside0.out (bkm_ BK383))); replace BK389 := Aside0.mk hx; replace HI378 := Aside0.mk hi; replace HB := Aside0.mk hb; clear hi hx hb hk))
  replace BK373 := Aside0.mk (blk_drew BK373.out)
  replace BK374 := Aside0.mk (blk_drew BK374.out)
  replace BK383 := Aside0.mk (blk_drew BK383.out)
  replace BK389 := Aside0.mk (blk_drew BK389.out)
  replace HI378 := Aside0.mk (IsS112.drew HI378.out)
  replace HB := Aside0.mk (below_drew1 HB.out)
  refine start_ (n := 4) (S := fun w' => w'.cell? ⟨gb383, 0, none⟩ = some (.string t379) ∧ w'.cell? ⟨gb383, 1, none⟩ = some (.string t380) ∧ w'.cell? ⟨gb389, 0, none⟩ = some (.int .i64 u1) ∧ w'.cell? ⟨gb389, 1, none⟩ = some (.string u2) ∧ w'.cell? ⟨gb389, 2, none⟩ = some (.string u3)) (ds := []) #[false, false, false, false] (by kernel_rfl) rfl rfl ⟨(blk_cell BK383.out 0).trans rfl, (blk_cell BK383.out 1).trans rfl, (blk_cell BK389.out 0).trans rfl, (blk_cell BK389.out 1).trans rfl, (blk_cell BK389.out 2).trans rfl⟩ (fun hHeld => ?_)
  generalize w90.drew = w24 at BK373 BK374 BK383 BK389 HI378 HB hHeld ⊢
  refine take_ (i := 0) (N := some 17) (v := ?_) (a' := ?_) #[true, false, false, false] rfl rfl (by kernel_rfl) (fun _ _ _ h => h) (Or.inl ⟨by rfl, ?_⟩) hHeld ?_ ?_
  rotate_left
  ·rintro w' ⟨s0, s1, s2, s3, s4⟩
   go_simp
   with_reducible rfl
  rotate_left
  ·simp only [Act.put, List.setIfInBounds_toArray, List.set_cons_zero, List.set_cons_succ, i64_w, i32_w]
   rfl
  refine take_ (i := 1) (N := some 18) (v := ?_) (a' := ?_) #[true, true, false, false] rfl rfl (by kernel_rfl) (fun _ _ _ h => h) (Or.inl ⟨by rfl, ?_⟩) hHeld ?_ ?_
  rotate_left
  ·rintro w' ⟨s0, s1, s2, s3, s4⟩
   go_simp
   with_reducible rfl
  rotate_left
  ·simp only [Act.put, List.setIfInBounds_toArray, List.set_cons_zero, List.set_cons_succ, i64_w, i32_w]
   rfl
  refine one_ (i := 2) (N := none) #[true, true, true, false] rfl rfl (by kernel_rfl) (by decide) (fun K hK => ?_)
  have hs25 : w24.cell? ⟨gb373, 0, none⟩ = some (.string (⟨#[]⟩ : ByteArray)) := (blk_cell BK373.out 0).trans rfl
  have hfs25 := blk_frozen BK373.out 0
  have hns25_1 := NB374_373.out
  have hns25_2 := NB383_373.out
  have hns25_3 := NB389_373.out
  have hms25_1 := NB373_374.out
  have hms25_2 := NB373_383.out
  have hms25_3 := NB373_389.out
  have hs26 : w24.cell? ⟨gb373, 1, none⟩ = some (.string (⟨#[]⟩ : ByteArray)) := (blk_cell BK373.out 1).trans rfl
  have hfs26 := blk_frozen BK373.out 1
  have hns26_1 := NB374_373.out
  have hns26_2 := NB383_373.out
  have hns26_3 := NB389_373.out
  have hms26_1 := NB373_374.out
  have hms26_2 := NB373_383.out
  have hms26_3 := NB373_389.out
  refine skip_ (w1 := ?_) (by rfl) rfl ?_ ?_
  rotate_left
  ·go_simp
   rfl
  refine hK.out _ _ ⟨((cell_far (p := ⟨gb373, _, none⟩) NB383_373.out _).trans (((cell_far (p := ⟨gb373, _, none⟩) NB383_373.out _).trans (hHeld.1)))), ((cell_far (p := ⟨gb373, _, none⟩) NB383_373.out _).trans (((cell_far (p := ⟨gb373, _, none⟩) NB383_373.out _).trans (hHeld.2.1)))), ((cell_far (p := ⟨gb373, _, none⟩) NB389_373.out _).trans (((cell_far (p := ⟨gb373, _, none⟩) NB389_373.out _).trans (hHeld.2.2.1)))), ((cell_far (p := ⟨gb373, _, none⟩) NB389_373.out _).trans (((cell_far (p := ⟨gb373, _, none⟩) NB389_373.out _).trans (hHeld.2.2.2.1)))), ((cell_far (p := ⟨gb373, _, none⟩) NB389_373.out _).trans (((cell_far (p := ⟨gb373, _, none⟩) NB389_373.out _).trans (hHeld.2.2.2.2))))⟩ (fun hHeld => ?_)
  clear hK K
  refine one_ (i := 3) (N := none) #[true, true, true, true] rfl rfl (by kernel_rfl) (by decide) (fun K hK => ?_)
  have hs27 : w24.cell? ⟨gb374, 0, none⟩ = some (.int .i64 0) := (blk_cell BK374.out 0).trans rfl
  have hfs27 := blk_frozen BK374.out 0
  have hns27_0 := NB373_374.out
  have hns27_2 := NB383_374.out
  have hns27_3 := NB389_374.out
  have hms27_0 := NB374_373.out
  have hms27_2 := NB374_383.out
  have hms27_3 := NB374_389.out
  have hs28 : w24.cell? ⟨gb374, 1, none⟩ = some (.string (⟨#[]⟩ : ByteArray)) := (blk_cell BK374.out 1).trans rfl
  have hfs28 := blk_frozen BK374.out 1
  have hns28_0 := NB373_374.out
  have hns28_2 := NB383_374.out
  have hns28_3 := NB389_374.out
  have hms28_0 := NB374_373.out
  have hms28_2 := NB374_383.out
  have hms28_3 := NB374_389.out
  have hs29 : w24.cell? ⟨gb374, 2, none⟩ = some (.string (⟨#[]⟩ : ByteArray)) := (blk_cell BK374.out 2).trans rfl
  have hfs29 := blk_frozen BK374.out 2
  have hns29_0 := NB373_374.out
  have hns29_2 := NB383_374.out
  have hns29_3 := NB389_374.out
  have hms29_0 := NB374_373.out
  have hms29_2 := NB374_383.out
  have hms29_3 := NB374_389.out
  refine skip_ (w1 := ?_) (by rfl) rfl ?_ ?_
  rotate_left
  ·go_simp
   rfl
  refine hK.out _ _ ⟨((cell_far (p := ⟨gb374, _, none⟩) NB383_374.out _).trans (((cell_far (p := ⟨gb374, _, none⟩) NB383_374.out _).trans (((cell_far (p := ⟨gb374, _, none⟩) NB383_374.out _).trans (hHeld.1)))))), ((cell_far (p := ⟨gb374, _, none⟩) NB383_374.out _).trans (((cell_far (p := ⟨gb374, _, none⟩) NB383_374.out _).trans (((cell_far (p := ⟨gb374, _, none⟩) NB383_374.out _).trans (hHeld.2.1)))))), ((cell_far (p := ⟨gb374, _, none⟩) NB389_374.out _).trans (((cell_far (p := ⟨gb374, _, none⟩) NB389_374.out _).trans (((cell_far (p := ⟨gb374, _, none⟩) NB389_374.out _).trans (hHeld.2.2.1)))))), ((cell_far (p := ⟨gb374, _, none⟩) NB389_374.out _).trans (((cell_far (p := ⟨gb374, _, none⟩) NB389_374.out _).trans (((cell_far (p := ⟨gb374, _, none⟩) NB389_374.out _).trans (hHeld.2.2.2.1)))))), ((cell_far (p := ⟨gb374, _, none⟩) NB389_374.out _).trans (((cell_far (p := ⟨gb374, _, none⟩) NB389_374.out _).trans (((cell_far (p := ⟨gb374, _, none⟩) NB389_374.out _).trans (hHeld.2.2.2.2))))))⟩ (fun hHeld => ?_)
  clear hK K
  refine done_ (by kernel_rfl) ?_
  try go_wp2
  refine bodyPost_ret (results_cc rfl _ _ gb373 gb374 32 26 #[.string t379, .string t380] #[.int .i64 u1, .string u2, .string u3] (0, 0) (0, 0) _ _ rfl (by (with_reducible repeat (first | refine blk_drewN ?_ _ | refine blk_drew ?_ | refine blk_alloc ?_ _)); refine blk_far ?_ NB373_374.out _; (with_reducible repeat (first | refine blk_drewN ?_ _ | refine blk_drew ?_ | refine blk_alloc ?_ _)); refine blk_far ?_ NB373_374.out _; (with_reducible repeat (first | refine blk_drewN ?_ _ | refine blk_drew ?_ | refine blk_alloc ?_ _)); refine blk_far ?_ NB373_374.out _; (with_reducible repeat (first | refine blk_drewN ?_ _ | refine blk_drew ?_ | refine blk_alloc ?_ _)); refine blk_put (cs := #[.string t379, .string (⟨#[]⟩ : ByteArray)]) ?_ 1 _ rfl; (with_reducible repeat (first | refine blk_drewN ?_ _ | refine blk_drew ?_ | refine blk_alloc ?_ _)); refine blk_put (cs := #[.string (⟨#[]⟩ : ByteArray), .string (⟨#[]⟩ : ByteArray)]) ?_ 0 _ rfl; (with_reducible repeat (first | refine blk_drewN ?_ _ | refine blk_drew ?_ | refine blk_alloc ?_ _)); exact BK373.out) Tryd.underlying32 rfl (by kernel_rfl) rfl (by (with_reducible repeat (first | refine blk_drewN ?_ _ | refine blk_drew ?_ | refine blk_alloc ?_ _)); refine blk_put (cs := #[.int .i64 u1, .string u2, .string (⟨#[]⟩ : ByteArray)]) ?_ 2 _ rfl; (with_reducible repeat (first | refine blk_drewN ?_ _ | refine blk_drew ?_ | refine blk_alloc ?_ _)); refine blk_put (cs := #[.int .i64 u1, .string (⟨#[]⟩ : ByteArray), .string (⟨#[]⟩ : ByteArray)]) ?_ 1 _ rfl; (with_reducible repeat (first | refine blk_drewN ?_ _ | refine blk_drew ?_ | refine blk_alloc ?_ _)); refine blk_put (cs := #[.int .i64 0, .string (⟨#[]⟩ : ByteArray), .string (⟨#[]⟩ : ByteArray)]) ?_ 0 _ rfl; (with_reducible repeat (first | refine blk_drewN ?_ _ | refine blk_drew ?_ | refine blk_alloc ?_ _)); refine blk_far ?_ NB374_373.out _; (with_reducible repeat (first | refine blk_drewN ?_ _ | refine blk_drew ?_ | refine blk_alloc ?_ _)); refine blk_far ?_ NB374_373.out _; (with_reducible repeat (first | refine blk_drewN ?_ _ | refine blk_drew ?_ | refine blk_alloc ?_ _)); exact BK374.out) Tryd.underlying26 rfl (by kernel_rfl)) rfl ?_
  exact ⟨rr_, bwi112_sp⟩
 ·replace c6 := Bool.eq_false_iff.mpr c6
  subst c6
  rw [if_neg (show ¬ (false = true) by decide)] at H
  simp only [Option.some.injEq, Prod.mk.injEq] at H
  obtain ⟨rfl, rfl, rfl, rfl, rfl⟩ := H
  go_enter Tryd.func45, Tryd.ntmps45
  try go_wp2_with (first | ((with_reducible refine gate_dst (N := 2) rfl ?_); refine be_ 2 #[.string (⟨#[]⟩ : ByteArray), .string (⟨#[]⟩ : ByteArray)] 32 ?_; intro gb373 hg w30 hbox hb; have BK373 := Aside0.mk (hbox); have GW373 := bsz_ hg; have GE373 := bsz_ hg; replace HB := bst_ hb; clear hb hbox hg) | ((with_reducible refine gate_dst (N := 3) rfl ?_); refine be_ 3 #[.int .i64 0, .string (⟨#[]⟩ : ByteArray), .string (⟨#[]⟩ : ByteArray)] 26 ?_; intro gb374 hg w31 hbox hb; have BK374 := Aside0.mk (hbox); have GW374 := bsz_ hg; have GE374 := bsz_ hg; replace HB := bst_ hb; have NB373_374 := nbl_ BK373 hg; have NB374_373 := nbr_ BK373 hg; replace BK373 := bkb_ BK373 hb; clear hb hbox hg) | ((with_reducible refine gate_callee (f := 73) rfl ?_); refine goesL_ (some 8) rfl rfl Tryd.func73 (by kernel_rfl) rfl #[.slice A0 l0.length c0] rfl (by (try simp only [List.map_toArray, List.map_cons, List.map_nil]); first | done | rfl | (simp only [List.length_drop, List.length_take]; rfl)) ?_; (with_reducible refine (spec_l00From.calls _ _ l0 t375 t376 t377 w _ ?side1 ?side2 ?side3 A2.out).mono ?_); (case side1 => exact bwl_); (case side2 => exact HR0.out); (case side3 => exact HC0.out); rintro e w32 ⟨g378, rfl, hi, hb, hb2⟩; refine ⟨_, rfl, ?_⟩; replace HB := Aside0.mk (hb); have HI378 := Aside0.mk (hi); have NB378_373 := Aside0.mk (IsS112.ne_blk hi (blk_below (g := gb373) (o := .cells #[.string (⟨#[]⟩ : ByteArray), .string (⟨#[]⟩ : ByteArray)] 32 (0, 0)) (by (with_reducible repeat (first | refine blk_drewN ?_ _ | refine blk_drew ?_ | refine blk_alloc ?_ _)); exact BK373.out) hb2) (by decide)); have NB373_378 := Aside0.mk (Ne.symm (IsS112.ne_blk hi (blk_below (g := gb373) (o := .cells #[.string (⟨#[]⟩ : ByteArray), .string (⟨#[]⟩ : ByteArray)] 32 (0, 0)) (by (with_reducible repeat (first | refine blk_drewN ?_ _ | refine blk_drew ?_ | refine blk_alloc ?_ _)); exact BK373.out) hb2) (by decide))); replace BK373 := bkb_ BK373 hb2; have NB378_374 := Aside0.mk (IsS112.ne_blk hi (blk_below (g := gb374) (o := .cells #[.int .i64 0, .string (⟨#[]⟩ : ByteArray), .string (⟨#[]⟩ : ByteArray)] 26 (0, 0)) (by (with_reducible repeat (first | refine blk_drewN ?_ _ | refine blk_drew ?_ | refine blk_alloc ?_ _)); exact BK374.out) hb2) (by decide)); have NB374_378 := Aside0.mk (Ne.symm (IsS112.ne_blk hi (blk_below (g := gb374) (o := .cells #[.int .i64 0, .string (⟨#[]⟩ : ByteArray), .string (⟨#[]⟩ : ByteArray)] 26 (0, 0)) (by (with_reducible repeat (first | refine blk_drewN ?_ _ | refine blk_drew ?_ | refine blk_alloc ?_ _)); exact BK374.out) hb2) (by decide))); replace BK374 := bkb_ BK374 hb2; clear hb hb2 hi) | ((with_reducible refine gate_callee (f := 74) rfl ?_); refine goesL_ (some 10) rfl rfl Tryd.func74 (by kernel_rfl) rfl #[.pointer (some ⟨g378, 0, none⟩)] rfl (by (try simp only [List.map_toArray, List.map_cons, List.map_nil]); first | done | rfl | (simp only [List.length_drop, List.length_take]; rfl)) ?_; (with_reducible refine (spec_l27Draw.calls k g378 t375 t376 t377 t379 t380 t381 t382 w _ ?side1 ?side2 A3.out).mono ?_); (case side1 => exact isk112_sp HI378); (case side2 => exact bwi112_sp); rintro e w33 ⟨rfl, hi, hb, hk⟩; refine ⟨_, rfl, ?_⟩; replace BK373 := Aside0.mk (KeepBut.blk hk (g' := gb373) (o := .cells #[.string (⟨#[]⟩ : ByteArray), .string (⟨#[]⟩ : ByteArray)] 32 (0, 0)) (by (with_reducible repeat (first | refine blk_drewN ?_ _ | refine blk_drew ?_ | refine blk_alloc ?_ _)); exact BK373.out) NB373_378.out (by simp)); replace BK374 := Aside0.mk (KeepBut.blk hk (g' := gb374) (o := .cells #[.int .i64 0, .string (⟨#[]⟩ : ByteArray), .string (⟨#[]⟩ : ByteArray)] 26 (0, 0)) (by (with_reducible repeat (first | refine blk_drewN ?_ _ | refine blk_drew ?_ | refine blk_alloc ?_ _)); exact BK374.out) NB374_378.out (by simp)); replace HB := Aside0.mk (hb); replace HI378 := Aside0.mk (hi); clear hb hk hi) | ((with_reducible refine gate_dst (N := 5) rfl ?_); refine be_ 5 #[.string (⟨#[]⟩ : ByteArray), .string (⟨#[]⟩ : ByteArray)] 32 ?_; intro gb383 hg w34 hbox hb; have BK383 := Aside0.mk (hbox); have GW383 := Aside0.mk ((by rw [hg]; exact (below_size bwi112_sp) : w.heap.size ≤ gb383)); have GE383 := Aside0.mk ((by rw [hg]; exact (below_size bwi112_sp) : w.heap.size ≤ gb383)); replace HB := Aside0.mk (below_step bwi112_sp hb); have NB373_383 := nbl_ BK373 hg; have NB383_373 := nbr_ BK373 hg; replace BK373 := bkb_ BK373 hb; have NB374_383 := nbl_ BK374 hg; have NB383_374 := nbr_ BK374 hg; replace BK374 := bkb_ BK374 hb; have NB378_383 := Aside0.mk ((by rw [hg]; exact Nat.ne_of_lt (IsS112.lt (show IsS112 w _ g378 t375 t381 t382 from by repeat (first | (with_reducible first | exact HI378.out | apply IsS112.alloc | apply IsS112.drewN | apply IsS112.drew | apply IsS112.set_1 | apply IsS112.set_2 | refine IsS112.far ?_ NB378_373.out _ | refine IsS112.far ?_ NB378_374.out _) | exact HI378.out))) : g378 ≠ gb383)); have NB383_378 := Aside0.mk ((by rw [hg]; exact Nat.ne_of_gt (IsS112.lt (show IsS112 w _ g378 t375 t381 t382 from by repeat (first | (with_reducible first | exact HI378.out | apply IsS112.alloc | apply IsS112.drewN | apply IsS112.drew | apply IsS112.set_1 | apply IsS112.set_2 | refine IsS112.far ?_ NB378_373.out _ | refine IsS112.far ?_ NB378_374.out _) | exact HI378.out))) : gb383 ≠ g378)); replace HI378 := Aside0.mk (IsS112.below (isk112_sp HI378) hb); clear hb hbox hg; have hnb35 := NB383_373.out; have hnc35 := NB373_383.out; have hnb36 := NB383_374.out; have hnc36 := NB374_383.out; have hnb37 := NB383_378.out; have hnc37 := NB378_383.out; have hcz38_0 := b20_ BK383; have hcz38_1 := b21_ BK383; have hfz38_0 := blk_frozen BK383.out 0; have hfz38_1 := blk_frozen BK383.out 1) | ((with_reducible refine gate_callee (f := 78) rfl ?_); refine goesL_ (some 12) rfl rfl Tryd.func78 (by kernel_rfl) rfl #[.pointer (some ⟨g378, 0, none⟩)] rfl (by (try simp only [List.map_toArray, List.map_cons, List.map_nil]); first | done | rfl | (simp only [List.length_drop, List.length_take]; rfl)) ?_; (with_reducible refine (spec_l27New.calls g378 t375 t381 t382 t384 t385 t386 t387 t388 w _ ?side1 ?side2 A4.out).mono ?_); (case side1 => exact isk112_sp HI378); (case side2 => exact bwi112_sp); rintro e w39 ⟨rfl, hi, hb, hk⟩; refine ⟨_, rfl, ?_⟩; replace BK373 := Aside0.mk (KeepBut.blk hk (g' := gb373) (o := .cells #[.string (⟨#[]⟩ : ByteArray), .string (⟨#[]⟩ : ByteArray)] 32 (0, 0)) (by (with_reducible repeat (first | refine blk_drewN ?_ _ | refine blk_drew ?_ | refine blk_alloc ?_ _)); refine blk_far ?_ NB373_383.out _; (with_reducible repeat (first | refine blk_drewN ?_ _ | refine blk_drew ?_ | refine blk_alloc ?_ _)); refine blk_far ?_ NB373_383.out _; (with_reducible repeat (first | refine blk_drewN ?_ _ | refine blk_drew ?_ | refine blk_alloc ?_ _)); exact BK373.out) NB373_378.out (by simp)); replace BK374 := Aside0.mk (KeepBut.blk hk (g' := gb374) (o := .cells #[.int .i64 0, .string (⟨#[]⟩ : ByteArray), .string (⟨#[]⟩ : ByteArray)] 26 (0, 0)) (by (with_reducible repeat (first | refine blk_drewN ?_ _ | refine blk_drew ?_ | refine blk_alloc ?_ _)); refine blk_far ?_ NB374_383.out _; (with_reducible repeat (first | refine blk_drewN ?_ _ | refine blk_drew ?_ | refine blk_alloc ?_ _)); refine blk_far ?_ NB374_383.out _; (with_reducible repeat (first | refine blk_drewN ?_ _ | refine blk_drew ?_ | refine blk_alloc ?_ _)); exact BK374.out) NB374_378.out (by simp)); replace BK383 := Aside0.mk (KeepBut.blk hk (g' := gb383) (o := .cells #[.string t379, .string t380] 32 (0, 0)) (by (with_reducible repeat (first | refine blk_drewN ?_ _ | refine blk_drew ?_ | refine blk_alloc ?_ _)); refine blk_put (cs := #[.string t379, .string (⟨#[]⟩ : ByteArray)]) ?_ 1 _ rfl; (with_reducible repeat (first | refine blk_drewN ?_ _ | refine blk_drew ?_ | refine blk_alloc ?_ _)); refine blk_put (cs := #[.string (⟨#[]⟩ : ByteArray), .string (⟨#[]⟩ : ByteArray)]) ?_ 0 _ rfl; (with_reducible repeat (first | refine blk_drewN ?_ _ | refine blk_drew ?_ | refine blk_alloc ?_ _)); exact BK383.out) NB383_378.out (by simp)); replace HB := Aside0.mk (hb); replace HI378 := Aside0.mk (hi); clear hb hk hi) | ((with_reducible refine gate_dst (N := 6) rfl ?_); refine be_ 6 #[.int .i64 0, .string (⟨#[]⟩ : ByteArray), .string (⟨#[]⟩ : ByteArray)] 26 ?_; intro gb389 hg w40 hbox hb; have BK389 := Aside0.mk (hbox); have GW389 := Aside0.mk ((by rw [hg]; exact (below_size bwi112_sp) : w.heap.size ≤ gb389)); have GE389 := Aside0.mk ((by rw [hg]; exact (below_size bwi112_sp) : w.heap.size ≤ gb389)); replace HB := Aside0.mk (below_step bwi112_sp hb); have NB373_389 := nbl_ BK373 hg; have NB389_373 := nbr_ BK373 hg; replace BK373 := bkb_ BK373 hb; have NB374_389 := nbl_ BK374 hg; have NB389_374 := nbr_ BK374 hg; replace BK374 := bkb_ BK374 hb; have NB383_389 := nbl_ BK383 hg; have NB389_383 := nbr_ BK383 hg; replace BK383 := bkb_ BK383 hb; have NB378_389 := Aside0.mk ((by rw [hg]; exact Nat.ne_of_lt (IsS112.lt (show IsS112 w _ g378 t375 t387 t388 from by repeat (first | (with_reducible first | exact HI378.out | apply IsS112.alloc | apply IsS112.drewN | apply IsS112.drew | apply IsS112.set_1 | apply IsS112.set_2 | refine IsS112.far ?_ NB378_373.out _ | refine IsS112.far ?_ NB378_374.out _ | refine IsS112.far ?_ NB378_383.out _) | exact HI378.out))) : g378 ≠ gb389)); have NB389_378 := Aside0.mk ((by rw [hg]; exact Nat.ne_of_gt (IsS112.lt (show IsS112 w _ g378 t375 t387 t388 from by repeat (first | (with_reducible first | exact HI378.out | apply IsS112.alloc | apply IsS112.drewN | apply IsS112.drew | apply IsS112.set_1 | apply IsS112.set_2 | refine IsS112.far ?_ NB378_373.out _ | refine IsS112.far ?_ NB378_374.out _ | refine IsS112.far ?_ NB378_383.out _) | exact HI378.out))) : gb389 ≠ g378)); replace HI378 := Aside0.mk (IsS112.below (isk112_sp HI378) hb); clear hb hbox hg; have hnb41 := NB389_373.out; have hnc41 := NB373_389.out; have hnb42 := NB389_374.out; have hnc42 := NB374_389.out; have hnb43 := NB389_383.out; have hnc43 := NB383_389.out; have hnb44 := NB389_378.out; have hnc44 := NB378_389.out; have hcz45_0 := b30_ BK389; have hcz45_1 := b31_ BK389; have hcz45_2 := b32_ BK389; have hfz45_0 := blk_frozen BK389.out 0; have hfz45_1 := blk_frozen BK389.out 1; have hfz45_2 := blk_frozen BK389.out 2) | ((with_reducible refine gate_callee (f := 75) rfl ?_); refine goesL_ (some 14) rfl rfl Tryd.func75 (by kernel_rfl) rfl #[.pointer (some ⟨g378, 0, none⟩), .int .i64 8] rfl (by (try simp only [List.map_toArray, List.map_cons, List.map_nil]); first | done | rfl | (simp only [List.length_drop, List.length_take]; rfl)) ?_; (with_reducible refine (spec_l00Src_one.calls g378 t375 t387 t388 8 false t391 t392 w _ ?side1 ?side2 A5.out).mono ?_); (case side1 => exact isk112_sp HI378); (case side2 => exact bwi112_sp); rintro e w46 ⟨rfl, hi, hb, hk⟩; refine ⟨_, rfl, ?_⟩; replace BK373 := Aside0.mk (KeepBut.blk hk (g' := gb373) (o := .cells #[.string (⟨#[]⟩ : ByteArray), .string (⟨#[]⟩ : ByteArray)] 32 (0, 0)) (by (with_reducible repeat (first | refine blk_drewN ?_ _ | refine blk_drew ?_ | refine blk_alloc ?_ _)); refine blk_far ?_ NB373_389.out _; (with_reducible repeat (first | refine blk_drewN ?_ _ | refine blk_drew ?_ | refine blk_alloc ?_ _)); refine blk_far ?_ NB373_389.out _; (with_reducible repeat (first | refine blk_drewN ?_ _ | refine blk_drew ?_ | refine blk_alloc ?_ _)); refine blk_far ?_ NB373_389.out _; (with_reducible repeat (first | refine blk_drewN ?_ _ | refine blk_drew ?_ | refine blk_alloc ?_ _)); exact BK373.out) NB373_378.out (by simp)); replace BK374 := Aside0.mk (KeepBut.blk hk (g' := gb374) (o := .cells #[.int .i64 0, .string (⟨#[]⟩ : ByteArray), .string (⟨#[]⟩ : ByteArray)] 26 (0, 0)) (by (with_reducible repeat (first | refine blk_drewN ?_ _ | refine blk_drew ?_ | refine blk_alloc ?_ _)); refine blk_far ?_ NB374_389.out _; (with_reducible repeat (first | refine blk_drewN ?_ _ | refine blk_drew ?_ | refine blk_alloc ?_ _)); refine blk_far ?_ NB374_389.out _; (with_reducible repeat (first | refine blk_drewN ?_ _ | refine blk_drew ?_ | refine blk_alloc ?_ _)); refine blk_far ?_ NB374_389.out _; (with_reducible repeat (first | refine blk_drewN ?_ _ | refine blk_drew ?_ | refine blk_alloc ?_ _)); exact BK374.out) NB374_378.out (by simp)); replace BK383 := Aside0.mk (KeepBut.blk hk (g' := gb383) (o := .cells #[.string t379, .string t380] 32 (0, 0)) (by (with_reducible repeat (first | refine blk_drewN ?_ _ | refine blk_drew ?_ | refine blk_alloc ?_ _)); refine blk_far ?_ NB383_389.out _; (with_reducible repeat (first | refine blk_drewN ?_ _ | refine blk_drew ?_ | refine blk_alloc ?_ _)); refine blk_far ?_ NB383_389.out _; (with_reducible repeat (first | refine blk_drewN ?_ _ | refine blk_drew ?_ | refine blk_alloc ?_ _)); refine blk_far ?_ NB383_389.out _; (with_reducible repeat (first | refine blk_drewN ?_ _ | refine blk_drew ?_ | refine blk_alloc ?_ _)); exact BK383.out) NB383_378.out (by simp)); replace BK389 := Aside0.mk (KeepBut.blk hk (g' := gb389) (o := .cells #[.int .i64 t384, .string t385, .string t386] 26 (0, 0)) (by (with_reducible repeat (first | refine blk_drewN ?_ _ | refine blk_drew ?_ | refine blk_alloc ?_ _)); refine blk_put (cs := #[.int .i64 t384, .string t385, .string (⟨#[]⟩ : ByteArray)]) ?_ 2 _ rfl; (with_reducible repeat (first | refine blk_drewN ?_ _ | refine blk_drew ?_ | refine blk_alloc ?_ _)); refine blk_put (cs := #[.int .i64 t384, .string (⟨#[]⟩ : ByteArray), .string (⟨#[]⟩ : ByteArray)]) ?_ 1 _ rfl; (with_reducible repeat (first | refine blk_drewN ?_ _ | refine blk_drew ?_ | refine blk_alloc ?_ _)); refine blk_put (cs := #[.int .i64 0, .string (⟨#[]⟩ : ByteArray), .string (⟨#[]⟩ : ByteArray)]) ?_ 0 _ rfl; (with_reducible repeat (first | refine blk_drewN ?_ _ | refine blk_drew ?_ | refine blk_alloc ?_ _)); exact BK389.out) NB389_378.out (by simp)); replace HB := Aside0.mk (hb); replace HI378 := Aside0.mk (hi); clear hb hk hi))
  replace BK373 := Aside0.mk (blk_drew BK373.out)
  replace BK374 := Aside0.mk (blk_drew BK374.out)
  replace BK383 := Aside0.mk (blk_drew BK383.out)
  replace BK389 := Aside0.mk (blk_drew BK389.out)
  replace HI378 := Aside0.mk (IsS112.drew HI378.out)
  replace HB := Aside0.mk (below_drew1 HB.out)
  refine start_ (n := 4) (S := fun w' => w'.cell? ⟨gb383, 0, none⟩ = some (.string t379) ∧ w'.cell? ⟨gb383, 1, none⟩ = some (.string t380) ∧ w'.cell? ⟨gb389, 0, none⟩ = some (.int .i64 t384) ∧ w'.cell? ⟨gb389, 1, none⟩ = some (.string t385) ∧ w'.cell? ⟨gb389, 2, none⟩ = some (.string t386)) (ds := []) #[false, false, false, false] (by kernel_rfl) rfl rfl ⟨(blk_cell BK383.out 0).trans rfl, (blk_cell BK383.out 1).trans rfl, (blk_cell BK389.out 0).trans rfl, (blk_cell BK389.out 1).trans rfl, (blk_cell BK389.out 2).trans rfl⟩ (fun hHeld => ?_)
  generalize w46.drew = w47 at BK373 BK374 BK383 BK389 HI378 HB hHeld ⊢
  refine take_ (i := 0) (N := some 17) (v := ?_) (a' := ?_) #[true, false, false, false] rfl rfl (by kernel_rfl) (fun _ _ _ h => h) (Or.inl ⟨by rfl, ?_⟩) hHeld ?_ ?_
  rotate_left
  ·rintro w' ⟨s0, s1, s2, s3, s4⟩
   go_simp
   with_reducible rfl
  rotate_left
  ·simp only [Act.put, List.setIfInBounds_toArray, List.set_cons_zero, List.set_cons_succ, i64_w, i32_w]
   rfl
  refine take_ (i := 1) (N := some 18) (v := ?_) (a' := ?_) #[true, true, false, false] rfl rfl (by kernel_rfl) (fun _ _ _ h => h) (Or.inl ⟨by rfl, ?_⟩) hHeld ?_ ?_
  rotate_left
  ·rintro w' ⟨s0, s1, s2, s3, s4⟩
   go_simp
   with_reducible rfl
  rotate_left
  ·simp only [Act.put, List.setIfInBounds_toArray, List.set_cons_zero, List.set_cons_succ, i64_w, i32_w]
   rfl
  refine one_ (i := 2) (N := none) #[true, true, true, false] rfl rfl (by kernel_rfl) (by decide) (fun K hK => ?_)
  have hs48 : w47.cell? ⟨gb373, 0, none⟩ = some (.string (⟨#[]⟩ : ByteArray)) := (blk_cell BK373.out 0).trans rfl
  have hfs48 := blk_frozen BK373.out 0
  have hns48_1 := NB374_373.out
  have hns48_2 := NB383_373.out
  have hns48_3 := NB389_373.out
  have hms48_1 := NB373_374.out
  have hms48_2 := NB373_383.out
  have hms48_3 := NB373_389.out
  have hs49 : w47.cell? ⟨gb373, 1, none⟩ = some (.string (⟨#[]⟩ : ByteArray)) := (blk_cell BK373.out 1).trans rfl
  have hfs49 := blk_frozen BK373.out 1
  have hns49_1 := NB374_373.out
  have hns49_2 := NB383_373.out
  have hns49_3 := NB389_373.out
  have hms49_1 := NB373_374.out
  have hms49_2 := NB373_383.out
  have hms49_3 := NB373_389.out
  refine skip_ (w1 := ?_) (by rfl) rfl ?_ ?_
  rotate_left
  ·go_simp
   rfl
  refine hK.out _ _ ⟨((cell_far (p := ⟨gb373, _, none⟩) NB383_373.out _).trans (((cell_far (p := ⟨gb373, _, none⟩) NB383_373.out _).trans (hHeld.1)))), ((cell_far (p := ⟨gb373, _, none⟩) NB383_373.out _).trans (((cell_far (p := ⟨gb373, _, none⟩) NB383_373.out _).trans (hHeld.2.1)))), ((cell_far (p := ⟨gb373, _, none⟩) NB389_373.out _).trans (((cell_far (p := ⟨gb373, _, none⟩) NB389_373.out _).trans (hHeld.2.2.1)))), ((cell_far (p := ⟨gb373, _, none⟩) NB389_373.out _).trans (((cell_far (p := ⟨gb373, _, none⟩) NB389_373.out _).trans (hHeld.2.2.2.1)))), ((cell_far (p := ⟨gb373, _, none⟩) NB389_373.out _).trans (((cell_far (p := ⟨gb373, _, none⟩) NB389_373.out _).trans (hHeld.2.2.2.2))))⟩ (fun hHeld => ?_)
  clear hK K
  refine one_ (i := 3) (N := none) #[true, true, true, true] rfl rfl (by kernel_rfl) (by decide) (fun K hK => ?_)
  have hs50 : w47.cell? ⟨gb374, 0, none⟩ = some (.int .i64 0) := (blk_cell BK374.out 0).trans rfl
  have hfs50 := blk_frozen BK374.out 0
  have hns50_0 := NB373_374.out
  have hns50_2 := NB383_374.out
  have hns50_3 := NB389_374.out
  have hms50_0 := NB374_373.out
  have hms50_2 := NB374_383.out
  have hms50_3 := NB374_389.out
  have hs51 : w47.cell? ⟨gb374, 1, none⟩ = some (.string (⟨#[]⟩ : ByteArray)) := (blk_cell BK374.out 1).trans rfl
  have hfs51 := blk_frozen BK374.out 1
  have hns51_0 := NB373_374.out
  have hns51_2 := NB383_374.out
  have hns51_3 := NB389_374.out
  have hms51_0 := NB374_373.out
  have hms51_2 := NB374_383.out
  have hms51_3 := NB374_389.out
  have hs52 : w47.cell? ⟨gb374, 2, none⟩ = some (.string (⟨#[]⟩ : ByteArray)) := (blk_cell BK374.out 2).trans rfl
  have hfs52 := blk_frozen BK374.out 2
  have hns52_0 := NB373_374.out
  have hns52_2 := NB383_374.out
  have hns52_3 := NB389_374.out
  have hms52_0 := NB374_373.out
  have hms52_2 := NB374_383.out
  have hms52_3 := NB374_389.out
  refine skip_ (w1 := ?_) (by rfl) rfl ?_ ?_
  rotate_left
  ·go_simp
   rfl
  refine hK.out _ _ ⟨((cell_far (p := ⟨gb374, _, none⟩) NB383_374.out _).trans (((cell_far (p := ⟨gb374, _, none⟩) NB383_374.out _).trans (((cell_far (p := ⟨gb374, _, none⟩) NB383_374.out _).trans (hHeld.1)))))), ((cell_far (p := ⟨gb374, _, none⟩) NB383_374.out _).trans (((cell_far (p := ⟨gb374, _, none⟩) NB383_374.out _).trans (((cell_far (p := ⟨gb374, _, none⟩) NB383_374.out _).trans (hHeld.2.1)))))), ((cell_far (p := ⟨gb374, _, none⟩) NB389_374.out _).trans (((cell_far (p := ⟨gb374, _, none⟩) NB389_374.out _).trans (((cell_far (p := ⟨gb374, _, none⟩) NB389_374.out _).trans (hHeld.2.2.1)))))), ((cell_far (p := ⟨gb374, _, none⟩) NB389_374.out _).trans (((cell_far (p := ⟨gb374, _, none⟩) NB389_374.out _).trans (((cell_far (p := ⟨gb374, _, none⟩) NB389_374.out _).trans (hHeld.2.2.2.1)))))), ((cell_far (p := ⟨gb374, _, none⟩) NB389_374.out _).trans (((cell_far (p := ⟨gb374, _, none⟩) NB389_374.out _).trans (((cell_far (p := ⟨gb374, _, none⟩) NB389_374.out _).trans (hHeld.2.2.2.2))))))⟩ (fun hHeld => ?_)
  clear hK K
  refine done_ (by kernel_rfl) ?_
  try go_wp2
  refine bodyPost_ret (results_cc rfl _ _ gb373 gb374 32 26 #[.string t379, .string t380] #[.int .i64 t384, .string t385, .string t386] (0, 0) (0, 0) _ _ rfl (by (with_reducible repeat (first | refine blk_drewN ?_ _ | refine blk_drew ?_ | refine blk_alloc ?_ _)); refine blk_far ?_ NB373_374.out _; (with_reducible repeat (first | refine blk_drewN ?_ _ | refine blk_drew ?_ | refine blk_alloc ?_ _)); refine blk_far ?_ NB373_374.out _; (with_reducible repeat (first | refine blk_drewN ?_ _ | refine blk_drew ?_ | refine blk_alloc ?_ _)); refine blk_far ?_ NB373_374.out _; (with_reducible repeat (first | refine blk_drewN ?_ _ | refine blk_drew ?_ | refine blk_alloc ?_ _)); refine blk_put (cs := #[.string t379, .string (⟨#[]⟩ : ByteArray)]) ?_ 1 _ rfl; (with_reducible repeat (first | refine blk_drewN ?_ _ | refine blk_drew ?_ | refine blk_alloc ?_ _)); refine blk_put (cs := #[.string (⟨#[]⟩ : ByteArray), .string (⟨#[]⟩ : ByteArray)]) ?_ 0 _ rfl; (with_reducible repeat (first | refine blk_drewN ?_ _ | refine blk_drew ?_ | refine blk_alloc ?_ _)); exact BK373.out) Tryd.underlying32 rfl (by kernel_rfl) rfl (by (with_reducible repeat (first | refine blk_drewN ?_ _ | refine blk_drew ?_ | refine blk_alloc ?_ _)); refine blk_put (cs := #[.int .i64 t384, .string t385, .string (⟨#[]⟩ : ByteArray)]) ?_ 2 _ rfl; (with_reducible repeat (first | refine blk_drewN ?_ _ | refine blk_drew ?_ | refine blk_alloc ?_ _)); refine blk_put (cs := #[.int .i64 t384, .string (⟨#[]⟩ : ByteArray), .string (⟨#[]⟩ : ByteArray)]) ?_ 1 _ rfl; (with_reducible repeat (first | refine blk_drewN ?_ _ | refine blk_drew ?_ | refine blk_alloc ?_ _)); refine blk_put (cs := #[.int .i64 0, .string (⟨#[]⟩ : ByteArray), .string (⟨#[]⟩ : ByteArray)]) ?_ 0 _ rfl; (with_reducible repeat (first | refine blk_drewN ?_ _ | refine blk_drew ?_ | refine blk_alloc ?_ _)); refine blk_far ?_ NB374_373.out _; (with_reducible repeat (first | refine blk_drewN ?_ _ | refine blk_drew ?_ | refine blk_alloc ?_ _)); refine blk_far ?_ NB374_373.out _; (with_reducible repeat (first | refine blk_drewN ?_ _ | refine blk_drew ?_ | refine blk_alloc ?_ _)); exact BK374.out) Tryd.underlying26 rfl (by kernel_rfl)) rfl ?_
  exact ⟨rr_, bwi112_sp⟩
end
end Go.Proofs.YtlcgonaapmmnkaaDoor.QFnLogs
