import Derived.Test.YtlcgonaapmmnkaaDoorSq
import Derived.Test.YtlcgonaapmmnkaaDoorQFnLogsx0
import Derived.Test.YtlcgonaapmmnkaaDoorQFnLogsx3
import Derived.Test.YtlcgonaapmmnkaaDoorQFnLogsx4
import Derived.Test.YtlcgonaapmmnkaaDoorQFnLogsx12
namespace Go.Proofs.YtlcgonaapmmnkaaDoor.QFnLogs
open Sq (fl pu_ gl_ b20_ b21_ b30_ b31_ b32_ od_ rr_ be_)
open Base (bwl_ bst_ bsz_ bkb_ nbl_ nbr_ kbl_ bkm_)
open Go.RowKit Go.Proofs.YtlcgonaapmmnkaaDoorW.PrintWords Go.Proofs.YtlcgonaapmmnkaaDoorW.PrintLast Go.Proofs.YtlcgonaapmmnkaaDoorW.PrintMore
attribute [local go_sem] max2_int min2_int max_two min_two max_three min_three max_four min_four
set_option linter.unusedVariables false
set_option linter.unusedSimpArgs false
section
open Go.Proofs.YtlcgonaapmmnkaaDoor.Base
def spec_l27Frames.run (k : Nat) (c : List Int) : Nat → Int → Int → ByteArray → Option (ByteArray × Int × Int)
 | 0, a, s, out => some (out, a, s)
 | n + 1, a, s, out => (spec_l27New.f c a s).bind fun t => (spec_l27Frame.g k t.1 t.2.1 t.2.2.1).bind fun fr => if out.size + fr.size ≤ 4611686018427387904 then spec_l27Frames.run k c n t.2.2.2.1 t.2.2.2.2 (out ++ fr) else none
theorem spec_l27Frames.run_mono (k : Nat) (c : List Int) : ∀ (n : Nat) (a s : Int) (out : ByteArray), LeO (spec_l27Frames.run k c n a s out) (spec_l27Frames.run (k + 1) c n a s out)
 | 0, a, s, out => LeO.refl _
 | n + 1, a, s, out => by
  unfold spec_l27Frames.run
  exact LeO.bind (LeO.refl _) fun t => LeO.bind (spec_l27Frame.g_mono _ _ _ _) fun fr => LeO.ite (spec_l27Frames.run_mono k c n _ _ _) (LeO.refl _)
def spec_l27Frames.f (k : Nat) (s0_0 : List Int) (s0_1 : Int) (s0_2 : Int) (a1 : Int) : Option (ByteArray × Int × Int) := if a1 ≤ 1000000 then spec_l27Frames.run k s0_0 a1.toNat s0_1 s0_2 (⟨#[]⟩ : ByteArray) else none
theorem spec_l27Frames.mono : ∀ a0 a1 a2 a3 k, LeO (spec_l27Frames.f k a0 a1 a2 a3) (spec_l27Frames.f (k + 1) a0 a1 a2 a3) := fun a0 a1 a2 a3 k => LeO.ite (spec_l27Frames.run_mono k _ _ _ _ _) (LeO.refl _)
set_option maxHeartbeats 8000000 in
set_option maxRecDepth 100000 in
theorem spec_l27Frames.calls (k : Nat) (g : Nat) (s0_0 : List Int) (s0_1 : Int) (s0_2 : Int) (a1 : Int) (r1 : ByteArray) (r2 : Int) (r3 : Int) (w0 w : World) (hI : IsS112 w0 w g s0_0 s0_1 s0_2) (hB : Below w0.heap.size w0 w) (h : spec_l27Frames.f k s0_0 s0_1 s0_2 a1 = some (r1, r2, r3)) :
  Calls Tryd.prog 80 #[.pointer (some ⟨g, 0, none⟩), .int .i64 a1] w fun e w' => e = .returned (.string r1) ∧ IsS112 w0 w' g s0_0 r2 r3 ∧ Below w0.heap.size w0 w' ∧ KeepBut w w' g none := by
 unfold spec_l27Frames.f at h
 split at h
 case isFalse => cases h
 rename_i hle
 have HR := Aside0.mk h
 have HI := Aside0.mk hI
 have HB := Aside0.mk hB
 clear h hI hB
 have hu26 := Tryd.underlying26
 go_enter Tryd.func80, Tryd.ntmps80
 go_wp2
 go_loopw [5, 6, 7] (fun v5 v6 _ w' => ∃ (z : Int) (a s : Int) (out : ByteArray), v5 = .string out ∧ v6 = .int .i64 z ∧ z ≤ 1000000 ∧ Aside0 (IsS112 w0 w' g s0_0 a s) ∧ Aside0 (Below w0.heap.size w0 w') ∧ Aside0 (KeepBut w w' g none) ∧ Aside0 (spec_l27Frames.run k s0_0 z.toNat a s out = some (r1, r2, r3))) (fun _ v6 _ _ => (intOf v6).toNat)
 case atStart => exact ⟨a1, s0_1, s0_2, _, rfl, rfl, hle, HI, HB, ⟨KeepBut.refl _ _ _⟩, HR⟩
 case round =>
  obtain ⟨z, a, s, out, rfl, rfl, hz, HI1, HB1, HK1, HR1⟩ := hrel
  by_cases hp : 0 < z
  ·obtain ⟨n, rfl⟩ : ∃ n : Nat, z = ((n + 1 : Nat) : Int) := ⟨z.toNat - 1, by omega⟩
   have h := HR1.out
   rw [Int.toNat_natCast] at h
   unfold spec_l27Frames.run at h
   obtain ⟨⟨t1, t2, t3, t4, t5⟩, ht, h⟩ := Option.bind_eq_some_iff.mp h
   obtain ⟨fr, hf, h⟩ := Option.bind_eq_some_iff.mp h
   simp only [] at hf h
   split at h
   case isFalse => cases h
   rename_i hz2
   have HT := Aside0.mk ht
   have HF := Aside0.mk hf
   have HN := Aside0.mk h
   clear ht hf h
   have q1 : ¬ 9223372036854775807 < out.size + fr.size := by omega
   go_wp2_with (first | (go_at_call 78; (with_reducible refine (spec_l27New.calls g s0_0 a s t1 t2 t3 t4 t5 w0 _ HI1.out HB1.out HT.out).mono ?_); rintro e w2 ⟨rfl, hI2, hB2, hK2⟩; have HI2 := Aside0.mk hI2; have HB2 := Aside0.mk hB2; have HK2 := Aside0.mk (HK1.out.trans hK2 (.inl rfl)); clear hI2 hB2 hK2) | (go_at_call 58; (with_reducible refine (spec_l27Frame.at_ k ⟨w2.heap.size, 0, none⟩ t1 t2 t3 fr _ (cellS26_0 (blk_new w2 _)) (cellS26_1 (blk_new w2 _)) (cellS26_2 (blk_new w2 _)) HF.out).mono ?_); rintro e w3 ⟨rfl, hb3⟩; have hb4 := below_step (below_alloc (Below.refl _ _) _) hb3; have HI3 := Aside0.mk (HI2.out.below hb4); have HB3 := Aside0.mk (below_step HB2.out hb4); have HK3 := Aside0.mk (HK2.out.trans (KeepBut.of_below hb4 g none) (.inl rfl)); clear hb3 hb4))
   go_round
   case rel => exact ⟨(n : Int), t4, t5, out ++ fr, rfl, by go_num, by omega, HI3, HB3, HK3, ⟨by rw [Int.toNat_natCast]; exact HN.out⟩⟩
   case measure => simp [intOf] <;> omega
  ·have h := HR1.out
   rw [show z.toNat = 0 by omega] at h
   unfold spec_l27Frames.run at h
   simp only [Option.some.injEq, Prod.mk.injEq] at h
   obtain ⟨rfl, rfl, rfl⟩ := h
   go_wp2
   go_ret
   exact ⟨rfl, HI1.out, HB1.out, HK1.out⟩
end
theorem isk112_x13 {P Q : Prop} (h : Aside0 P) (k : P → Q := by (intro h; repeat (first | (with_reducible first | exact h | apply IsS112.alloc | apply IsS112.drew | apply IsS112.drewN | apply IsS112.set_1 | apply IsS112.set_2 | refine IsS112.far ?_ (Aside0.out (by assumption)) _) | exact h))) : Q := k h.out
theorem bwi112_x13 {w W : World} (h : Below w.heap.size w W := by repeat (first | (with_reducible first | exact HB.out | apply below_alloc | apply pw_below_drewN | apply below_drew1 | refine below_set ?_ (Aside0.out (by assumption)) | refine below_set ?_ (IsS112.ge (Aside0.out (by assumption)))) | exact HB.out)) : Below w.heap.size w W := h
mutual
def spec_l27Draw.j0 : Nat → Int → Bool → List Int → Int → Int → ByteArray → ByteArray → Option (ByteArray × ByteArray × Int × Int)
 | 0, _, _, _, _, _, _, _ => none
 | k + 1, x16, x17, x1000, x1001, x1002, x332000, x332001 => if x17 = true then (if x332000.size + 8 ≤ 9223372036854775807 then ((spec_l00Src_one.f x1000 x1001 x1002 2).bind fun bt341 => (if bt341.1 = true then (some (x332000 ++ (⟨#[57, 58, 53, 32, 115, 97, 105, 108]⟩ : ByteArray), (⟨#[]⟩ : ByteArray), bt341.2.1, bt341.2.2)) else (some (x332000 ++ (⟨#[57, 58, 53, 32, 115, 97, 105, 108]⟩ : ByteArray), x332001, bt341.2.1, bt341.2.2)))) else (none)) else (if x16 = 2 then (if x332001.size + 1 ≤ 9223372036854775807 then (some (x332000, x332001 ++ (⟨#[49]⟩ : ByteArray), x1001, x1002)) else (none)) else (if x16 = 3 then ((spec_l00Src_pick.f x1000 x1001 x1002 2).bind fun bt344 => (spec_l27Draw.l0 k (wrap64 ((wrap64 (4000 - (x332001.size : Int))) + bt344.1)) x1000 bt344.2.1 bt344.2.2 x332000 x332001)) else (some (x332000, x332001, x1001, x1002))))
def spec_l27Draw.l0 : Nat → Int → List Int → Int → Int → ByteArray → ByteArray → Option (ByteArray × ByteArray × Int × Int)
 | 0, _, _, _, _, _, _ => none
 | k + 1, x4, x1000, x1001, x1002, x332000, x332001 => if (x332000.size : Int) < x4 then (if x332000.size + 1 ≤ 9223372036854775807 then (spec_l27Draw.l0 k x4 x1000 x1001 x1002 (x332000 ++ (⟨#[120]⟩ : ByteArray)) x332001) else (none)) else (some (x332000, x332001, x1001, x1002))
end
def spec_l27Draw.f (k : Nat) (s0_0 : List Int) (s0_1 : Int) (s0_2 : Int) : Option (ByteArray × ByteArray × Int × Int) := (spec_l00Src_pick.f s0_0 s0_1 s0_2 5).bind fun bt325 => ((spec_l27Frames.f k s0_0 bt325.2.1 bt325.2.2 bt325.1).bind fun bt328 => ((spec_l00Src_pick.f s0_0 bt328.2.1 bt328.2.2 4).bind fun bt332 => ((spec_l27Frames.f k s0_0 bt332.2.1 bt332.2.2 bt332.1).bind fun bt335 => ((spec_l00Src_pick.f s0_0 bt335.2.1 bt335.2.2 12).bind fun bt338 => (if bt338.1 = 0 then (spec_l27Draw.j0 k bt338.1 (bt338.1 == 0) s0_0 bt338.2.1 bt338.2.2 bt328.1 bt335.1) else (spec_l27Draw.j0 k bt338.1 (bt338.1 == 1) s0_0 bt338.2.1 bt338.2.2 bt328.1 bt335.1))))))
theorem spec_l27Draw.mono_l : ∀ k, (∀ y0 y1 y2 y3 y4 y5 y6, LeO (spec_l27Draw.j0 k y0 y1 y2 y3 y4 y5 y6) (spec_l27Draw.j0 (k + 1) y0 y1 y2 y3 y4 y5 y6)) ∧ (∀ y0 y1 y2 y3 y4 y5, LeO (spec_l27Draw.l0 k y0 y1 y2 y3 y4 y5) (spec_l27Draw.l0 (k + 1) y0 y1 y2 y3 y4 y5))
 | 0 => ⟨fun _ _ _ _ _ _ _ r h => by simp [spec_l27Draw.j0] at h, fun _ _ _ _ _ _ r h => by simp [spec_l27Draw.l0] at h⟩
 | k + 1 => by
  obtain ⟨ih0, ih1⟩ := spec_l27Draw.mono_l k
  refine ⟨?_, ?_⟩
  ·intro y0 y1 y2 y3 y4 y5 y6
   unfold spec_l27Draw.j0
   repeat' first
   | (with_reducible exact ih0 _ _ _ _ _ _ _)
   | (with_reducible exact ih1 _ _ _ _ _ _)
   | (with_reducible exact spec_l27Frames.mono _ _ _ _ _)
   | (with_reducible exact LeO.refl _)
   | (with_reducible exact LeO.none _)
   | (with_reducible refine LeO.ite ?_ ?_)
   | (with_reducible refine LeO.bind ?_ (fun _ => ?_))
   | exact ih0 _ _ _ _ _ _ _
   | exact ih1 _ _ _ _ _ _
   | exact spec_l27Frames.mono _ _ _ _ _
   | exact LeO.none _
   | refine LeO.ite ?_ ?_
   | refine LeO.bind ?_ (fun _ => ?_)
  ·intro y0 y1 y2 y3 y4 y5
   unfold spec_l27Draw.l0
   repeat' first
   | (with_reducible exact ih0 _ _ _ _ _ _ _)
   | (with_reducible exact ih1 _ _ _ _ _ _)
   | (with_reducible exact spec_l27Frames.mono _ _ _ _ _)
   | (with_reducible exact LeO.refl _)
   | (with_reducible exact LeO.none _)
   | (with_reducible refine LeO.ite ?_ ?_)
   | (with_reducible refine LeO.bind ?_ (fun _ => ?_))
   | exact ih0 _ _ _ _ _ _ _
   | exact ih1 _ _ _ _ _ _
   | exact spec_l27Frames.mono _ _ _ _ _
   | exact LeO.none _
   | refine LeO.ite ?_ ?_
   | refine LeO.bind ?_ (fun _ => ?_)
theorem spec_l27Draw.mono : ∀ a0 a1 a2 k, LeO (spec_l27Draw.f k a0 a1 a2) (spec_l27Draw.f (k + 1) a0 a1 a2) := by
 intro a0 a1 a2 k
 obtain ⟨ih0, ih1⟩ := spec_l27Draw.mono_l k
 unfold spec_l27Draw.f
 repeat' first
   | (with_reducible exact ih0 _ _ _ _ _ _ _)
   | (with_reducible exact ih1 _ _ _ _ _ _)
   | (with_reducible exact spec_l27Frames.mono _ _ _ _ _)
   | (with_reducible exact LeO.refl _)
   | (with_reducible exact LeO.none _)
   | (with_reducible refine LeO.ite ?_ ?_)
   | (with_reducible refine LeO.bind ?_ (fun _ => ?_))
   | exact ih0 _ _ _ _ _ _ _
   | exact ih1 _ _ _ _ _ _
   | exact spec_l27Frames.mono _ _ _ _ _
   | exact LeO.none _
   | refine LeO.ite ?_ ?_
   | refine LeO.bind ?_ (fun _ => ?_)
def spec_l27Draw.T12 : Bool × List (List Nat × List Nat) := (true, [([], []), ([0], [0]), ([1], [1]), ([2], [2]), ([], []), ([4], [4]), ([3, 5], [3, 5]), ([6, 5, 0, 1, 2, 3, 4, 5, 6], [6])])
def spec_l27Draw.B12 : List Nat := [0, 1, 3, 7, 0, 16, 63, 127]
theorem spec_l27Draw.tab12 : rtab .any (opsOf Tryd.f74 12) = spec_l27Draw.T12 := by kernel_rfl
theorem spec_l27Draw.bits12 : waitsOk spec_l27Draw.T12.2 spec_l27Draw.B12 = true := by kernel_rfl
set_option maxHeartbeats 8000000 in
set_option maxRecDepth 100000 in
theorem spec_l27Draw.calls (k : Nat) (g : Nat) (s0_0 : List Int) (s0_1 : Int) (s0_2 : Int) (r1 : ByteArray) (r2 : ByteArray) (r3 : Int) (r4 : Int) (w0 w : World) (hI : IsS112 w0 w g s0_0 s0_1 s0_2) (hB : Below w0.heap.size w0 w) (h : spec_l27Draw.f k s0_0 s0_1 s0_2 = some (r1, r2, r3, r4)) :
  Calls Tryd.prog 74 #[.pointer (some ⟨g, 0, none⟩)] w fun e w' => e = .returned (.agg #[.string r1, .string r2]) ∧ IsS112 w0 w' g s0_0 r3 r4 ∧ Below w0.heap.size w0 w' ∧ KeepBut w w' g none := by
 have hu32 := Tryd.underlying32
 have HI0 := Aside0.mk hI
 have HK := Aside0.mk (KeepBut.refl w g none)
 have HL := Aside0.mk hB.size
 clear hI
 have HW0 := Aside0.mk hB.size
 have HB := Aside0.mk hB
 clear hB
 have H : ((spec_l00Src_pick.f s0_0 s0_1 s0_2 5).bind fun bt325 => ((spec_l27Frames.f k s0_0 bt325.2.1 bt325.2.2 bt325.1).bind fun bt328 => ((spec_l00Src_pick.f s0_0 bt328.2.1 bt328.2.2 4).bind fun bt332 => ((spec_l27Frames.f k s0_0 bt332.2.1 bt332.2.2 bt332.1).bind fun bt335 => ((spec_l00Src_pick.f s0_0 bt335.2.1 bt335.2.2 12).bind fun bt338 => (if bt338.1 = 0 then (spec_l27Draw.j0 k bt338.1 (bt338.1 == 0) s0_0 bt338.2.1 bt338.2.2 bt328.1 bt335.1) else (spec_l27Draw.j0 k bt338.1 (bt338.1 == 1) s0_0 bt338.2.1 bt338.2.2 bt328.1 bt335.1))))))) = some (r1, r2, r3, r4) := h
 clear h
 replace H := Option.bind_eq_some_iff.mp H
 obtain ⟨⟨t325, t326, t327⟩, A20, H⟩ := H
 (try dsimp only at H)
 have A2 := Aside0.mk A20
 clear A20
 replace H := Option.bind_eq_some_iff.mp H
 obtain ⟨⟨t328, t329, t330⟩, A30, H⟩ := H
 (try dsimp only at H)
 have A3 := Aside0.mk A30
 clear A30
 replace H := Option.bind_eq_some_iff.mp H
 obtain ⟨⟨t332, t333, t334⟩, A40, H⟩ := H
 (try dsimp only at H)
 have A4 := Aside0.mk A40
 clear A40
 replace H := Option.bind_eq_some_iff.mp H
 obtain ⟨⟨t335, t336, t337⟩, A50, H⟩ := H
 (try dsimp only at H)
 have A5 := Aside0.mk A50
 clear A50
 replace H := Option.bind_eq_some_iff.mp H
 obtain ⟨⟨t338, t339, t340⟩, A60, H⟩ := H
 (try dsimp only at H)
 have A6 := Aside0.mk A60
 clear A60
 have HC7 := Aside0.mk H
 clear H
 go_enter Tryd.func74, Tryd.ntmps74
 go_upto_if 17 with (first | ((with_reducible refine gate_dst (N := 2) rfl ?_); refine be_ 2 #[.string (⟨#[]⟩ : ByteArray), .string (⟨#[]⟩ : ByteArray)] 32 ?_; intro gb324 hg w8 hbox hb; replace HB := Aside0.mk (below_step bwi112_x13 hb); have BK324 := Aside0.mk (hbox); have GW324 := Aside0.mk ((by rw [hg]; exact (keep_size (w := w) (g := g) (row := none) (kbl_ HK)) : w.heap.size ≤ gb324)); have GE324 := Aside0.mk ((Nat.le_trans HW0.out (by rw [hg]; exact (keep_size (w := w) (g := g) (row := none) (kbl_ HK)) : w.heap.size ≤ gb324) : w0.heap.size ≤ gb324)); replace HK := Aside0.mk (KeepBut.trans (kbl_ HK) (KeepBut.of_below hb g none) (.inl rfl)); have NB0_324 := Aside0.mk ((by rw [hg]; exact Nat.ne_of_lt (IsS112.lt (show IsS112 w0 _ g s0_0 s0_1 s0_2 from by repeat (first | (with_reducible first | exact HI0.out | apply IsS112.alloc | apply IsS112.drewN | apply IsS112.drew | apply IsS112.set_1 | apply IsS112.set_2) | exact HI0.out))) : g ≠ gb324)); have NB324_0 := Aside0.mk ((by rw [hg]; exact Nat.ne_of_gt (IsS112.lt (show IsS112 w0 _ g s0_0 s0_1 s0_2 from by repeat (first | (with_reducible first | exact HI0.out | apply IsS112.alloc | apply IsS112.drewN | apply IsS112.drew | apply IsS112.set_1 | apply IsS112.set_2) | exact HI0.out))) : gb324 ≠ g)); replace HI0 := Aside0.mk (IsS112.below (isk112_x13 HI0) hb); clear hb hbox hg) | ((with_reducible refine gate_callee (f := 77) rfl ?_); refine gl_ (some 7) Tryd.func77 #[.pointer (some ⟨g, 0, none⟩), .int .i64 5] ?_; (with_reducible refine (spec_l00Src_pick.calls g s0_0 s0_1 s0_2 5 t325 t326 t327 w0 _ ?side1 ?side2 A2.out).mono ?_); (case side1 => exact isk112_x13 HI0); (case side2 => exact bwi112_x13); rintro e w9 ⟨rfl, hi, hb, hk⟩; refine ⟨_, rfl, ?_⟩; replace BK324 := Aside0.mk (KeepBut.blk hk (g' := gb324) (o := .cells #[.string (⟨#[]⟩ : ByteArray), .string (⟨#[]⟩ : ByteArray)] 32 (0, 0)) (by (with_reducible repeat (first | refine blk_drewN ?_ _ | refine blk_drew ?_ | refine blk_alloc ?_ _)); exact BK324.out) NB324_0.out (by simp)); replace HK := Aside0.mk (KeepBut.trans (kbl_ HK) hk (.inl rfl)); replace HB := Aside0.mk (hb); replace HI0 := Aside0.mk (hi); clear hb hk hi) | ((with_reducible refine gate_callee (f := 80) rfl ?_); refine gl_ (some 8) Tryd.func80 #[.pointer (some ⟨g, 0, none⟩), .int .i64 t325] ?_; (with_reducible refine (spec_l27Frames.calls k g s0_0 t326 t327 t325 t328 t329 t330 w0 _ ?side1 ?side2 A3.out).mono ?_); (case side1 => exact isk112_x13 HI0); (case side2 => exact bwi112_x13); rintro e w10 ⟨rfl, hi, hb, hk⟩; refine ⟨_, rfl, ?_⟩; replace BK324 := Aside0.mk (KeepBut.blk hk (g' := gb324) (o := .cells #[.string (⟨#[]⟩ : ByteArray), .string (⟨#[]⟩ : ByteArray)] 32 (0, 0)) (by (with_reducible repeat (first | refine blk_drewN ?_ _ | refine blk_drew ?_ | refine blk_alloc ?_ _)); exact BK324.out) NB324_0.out (by simp)); replace HK := Aside0.mk (KeepBut.trans (kbl_ HK) hk (.inl rfl)); replace HB := Aside0.mk (hb); replace HI0 := Aside0.mk (hi); clear hb hk hi) | ((with_reducible refine gate_dst (N := 3) rfl ?_); refine be_ 3 #[.string (⟨#[]⟩ : ByteArray), .string (⟨#[]⟩ : ByteArray)] 32 ?_; intro gb331 hg w11 hbox hb; replace HB := Aside0.mk (below_step bwi112_x13 hb); have BK331 := Aside0.mk (hbox); have GW331 := Aside0.mk ((by rw [hg]; exact (keep_size (w := w) (g := g) (row := none) (kbl_ HK)) : w.heap.size ≤ gb331)); have GE331 := Aside0.mk ((Nat.le_trans HW0.out (by rw [hg]; exact (keep_size (w := w) (g := g) (row := none) (kbl_ HK)) : w.heap.size ≤ gb331) : w0.heap.size ≤ gb331)); replace HK := Aside0.mk (KeepBut.trans (kbl_ HK) (KeepBut.of_below hb g none) (.inl rfl)); have NB324_331 := nbl_ BK324 hg; have NB331_324 := nbr_ BK324 hg; replace BK324 := bkb_ BK324 hb; have NB0_331 := Aside0.mk ((by rw [hg]; exact Nat.ne_of_lt (IsS112.lt (show IsS112 w0 _ g s0_0 t329 t330 from by repeat (first | (with_reducible first | exact HI0.out | apply IsS112.alloc | apply IsS112.drewN | apply IsS112.drew | apply IsS112.set_1 | apply IsS112.set_2 | refine IsS112.far ?_ NB0_324.out _) | exact HI0.out))) : g ≠ gb331)); have NB331_0 := Aside0.mk ((by rw [hg]; exact Nat.ne_of_gt (IsS112.lt (show IsS112 w0 _ g s0_0 t329 t330 from by repeat (first | (with_reducible first | exact HI0.out | apply IsS112.alloc | apply IsS112.drewN | apply IsS112.drew | apply IsS112.set_1 | apply IsS112.set_2 | refine IsS112.far ?_ NB0_324.out _) | exact HI0.out))) : gb331 ≠ g)); replace HI0 := Aside0.mk (IsS112.below (isk112_x13 HI0) hb); clear hb hbox hg; have hnb12 := NB331_324.out; have hnc12 := NB324_331.out; have hnb13 := NB331_0.out; have hnc13 := NB0_331.out; have hcz14_0 := b20_ BK331; have hcz14_1 := b21_ BK331; have hfz14_0 := blk_frozen BK331.out 0; have hfz14_1 := blk_frozen BK331.out 1) | ((with_reducible refine gate_callee (f := 77) rfl ?_); refine gl_ (some 12) Tryd.func77 #[.pointer (some ⟨g, 0, none⟩), .int .i64 4] ?_; (with_reducible refine (spec_l00Src_pick.calls g s0_0 t329 t330 4 t332 t333 t334 w0 _ ?side1 ?side2 A4.out).mono ?_); (case side1 => exact isk112_x13 HI0); (case side2 => exact bwi112_x13); rintro e w15 ⟨rfl, hi, hb, hk⟩; refine ⟨_, rfl, ?_⟩; replace BK324 := Aside0.mk (KeepBut.blk hk (g' := gb324) (o := .cells #[.string (⟨#[]⟩ : ByteArray), .string (⟨#[]⟩ : ByteArray)] 32 (0, 0)) (by (with_reducible repeat (first | refine blk_drewN ?_ _ | refine blk_drew ?_ | refine blk_alloc ?_ _)); refine blk_far ?_ NB324_331.out _; (with_reducible repeat (first | refine blk_drewN ?_ _ | refine blk_drew ?_ | refine blk_alloc ?_ _)); refine blk_far ?_ NB324_331.out _; (with_reducible repeat (first | refine blk_drewN ?_ _ | refine blk_drew ?_ | refine blk_alloc ?_ _)); exact BK324.out) NB324_0.out (by simp)); replace BK331 := Aside0.mk (KeepBut.blk hk (g' := gb331) (o := .cells #[.string t328, .string (⟨#[]⟩ : ByteArray)] 32 (0, 0)) (by (with_reducible repeat (first | refine blk_drewN ?_ _ | refine blk_drew ?_ | refine blk_alloc ?_ _)); refine blk_put (cs := #[.string t328, .string (⟨#[]⟩ : ByteArray)]) ?_ 1 _ rfl; (with_reducible repeat (first | refine blk_drewN ?_ _ | refine blk_drew ?_ | refine blk_alloc ?_ _)); refine blk_put (cs := #[.string (⟨#[]⟩ : ByteArray), .string (⟨#[]⟩ : ByteArray)]) ?_ 0 _ rfl; (with_reducible repeat (first | refine blk_drewN ?_ _ | refine blk_drew ?_ | refine blk_alloc ?_ _)); exact BK331.out) NB331_0.out (by simp)); replace HK := Aside0.mk (KeepBut.trans (kbl_ HK) hk (.inl rfl)); replace HB := Aside0.mk (hb); replace HI0 := Aside0.mk (hi); clear hb hk hi) | ((with_reducible refine gate_callee (f := 80) rfl ?_); refine gl_ (some 13) Tryd.func80 #[.pointer (some ⟨g, 0, none⟩), .int .i64 t332] ?_; (with_reducible refine (spec_l27Frames.calls k g s0_0 t333 t334 t332 t335 t336 t337 w0 _ ?side1 ?side2 A5.out).mono ?_); (case side1 => exact isk112_x13 HI0); (case side2 => exact bwi112_x13); rintro e w16 ⟨rfl, hi, hb, hk⟩; refine ⟨_, rfl, ?_⟩; replace BK324 := Aside0.mk (KeepBut.blk hk (g' := gb324) (o := .cells #[.string (⟨#[]⟩ : ByteArray), .string (⟨#[]⟩ : ByteArray)] 32 (0, 0)) (by (with_reducible repeat (first | refine blk_drewN ?_ _ | refine blk_drew ?_ | refine blk_alloc ?_ _)); exact BK324.out) NB324_0.out (by simp)); replace BK331 := Aside0.mk (KeepBut.blk hk (g' := gb331) (o := .cells #[.string t328, .string (⟨#[]⟩ : ByteArray)] 32 (0, 0)) (by (with_reducible repeat (first | refine blk_drewN ?_ _ | refine blk_drew ?_ | refine blk_alloc ?_ _)); exact BK331.out) NB331_0.out (by simp)); replace HK := Aside0.mk (KeepBut.trans (kbl_ HK) hk (.inl rfl)); replace HB := Aside0.mk (hb); replace HI0 := Aside0.mk (hi); clear hb hk hi; have hcz17_0 := b20_ BK331; have hcz17_1 := b21_ BK331; have hfz17_0 := blk_frozen BK331.out 0; have hfz17_1 := blk_frozen BK331.out 1) | ((with_reducible refine gate_callee (f := 77) rfl ?_); refine gl_ (some 16) Tryd.func77 #[.pointer (some ⟨g, 0, none⟩), .int .i64 12] ?_; (with_reducible refine (spec_l00Src_pick.calls g s0_0 t336 t337 12 t338 t339 t340 w0 _ ?side1 ?side2 A6.out).mono ?_); (case side1 => exact isk112_x13 HI0); (case side2 => exact bwi112_x13); rintro e w18 ⟨rfl, hi, hb, hk⟩; refine ⟨_, rfl, ?_⟩; replace BK324 := Aside0.mk (KeepBut.blk hk (g' := gb324) (o := .cells #[.string (⟨#[]⟩ : ByteArray), .string (⟨#[]⟩ : ByteArray)] 32 (0, 0)) (by (with_reducible repeat (first | refine blk_drewN ?_ _ | refine blk_drew ?_ | refine blk_alloc ?_ _)); refine blk_far ?_ NB324_331.out _; (with_reducible repeat (first | refine blk_drewN ?_ _ | refine blk_drew ?_ | refine blk_alloc ?_ _)); exact BK324.out) NB324_0.out (by simp)); replace BK331 := Aside0.mk (KeepBut.blk hk (g' := gb331) (o := .cells #[.string t328, .string t335] 32 (0, 0)) (by (with_reducible repeat (first | refine blk_drewN ?_ _ | refine blk_drew ?_ | refine blk_alloc ?_ _)); refine blk_put (cs := #[.string t328, .string (⟨#[]⟩ : ByteArray)]) ?_ 1 _ rfl; (with_reducible repeat (first | refine blk_drewN ?_ _ | refine blk_drew ?_ | refine blk_alloc ?_ _)); exact BK331.out) NB331_0.out (by simp)); replace HK := Aside0.mk (KeepBut.trans (kbl_ HK) hk (.inl rfl)); replace HB := Aside0.mk (hb); replace HI0 := Aside0.mk (hi); clear hb hk hi))
 (try simp only [Act.put, List.setIfInBounds_toArray, List.set_cons_zero, List.set_cons_succ])
 go_cut [17] (fun v17 wc => ∃ (kq : Nat) (x17_6 : Bool), v17 = .bool x17_6 ∧ Aside0 (spec_l27Draw.j0 kq t338 x17_6 s0_0 t339 t340 t328 t335 = some (r1, r2, r3, r4)) ∧ Aside0 (kq ≤ k) ∧ Aside0 (wc.heap[gb324]? = some (.cells #[.string (⟨#[]⟩ : ByteArray), .string (⟨#[]⟩ : ByteArray)] 32 (0, 0))) ∧ Aside0 (wc.heap[gb331]? = some (.cells #[.string t328, .string t335] 32 (0, 0))) ∧ Aside0 (IsS112 w0 wc g s0_0 t339 t340) ∧ Aside0 (KeepBut w wc g none) ∧ Aside0 (Below w0.heap.size w0 wc))
 case first =>
  have H := HC7.out
  clear HC7
  by_cases c19 : t338 = 0
  ·rw [if_pos c19] at H
   have c19b0 : (t338 == 0) = true := beq_iff_eq.mpr c19
   have c19b1 : (t338 != 0) = false := bne_eq_false_iff_eq.mpr c19
   clear c19
   (first | rw [c19b0] | (simp only [i64_w, i32_w]; rw [c19b0]) | skip)
   have H' := Aside0.mk H
   clear H
   go_wp2
   go_meet
   case rel => exact ⟨_, ((t338 == 0)), (by first | rfl | (simp; done) | (simp [*]; done)), H', ⟨by first | omega | exact Nat.le_refl _⟩, ⟨by (with_reducible repeat (first | refine blk_drewN ?_ _ | refine blk_drew ?_ | refine blk_alloc ?_ _)); exact BK324.out⟩, ⟨by (with_reducible repeat (first | refine blk_drewN ?_ _ | refine blk_drew ?_ | refine blk_alloc ?_ _)); exact BK331.out⟩, ⟨isk112_x13 HI0⟩, ⟨kbl_ HK⟩, ⟨bwi112_x13⟩⟩
  ·rw [if_neg c19] at H
   have c19b0 : (t338 == 0) = false := beq_eq_false_iff_ne.mpr c19
   have c19b1 : (t338 != 0) = true := bne_iff_ne.mpr c19
   (first | rw [c19b0] | (simp only [i64_w, i32_w]; rw [c19b0]) | skip)
   have H' := Aside0.mk H
   clear H
   go_wp2
   go_meet
   case rel => exact ⟨_, ((t338 == 1)), (by first | rfl | (simp; done) | (simp [*]; done)), H', ⟨by first | omega | exact Nat.le_refl _⟩, ⟨by (with_reducible repeat (first | refine blk_drewN ?_ _ | refine blk_drew ?_ | refine blk_alloc ?_ _)); exact BK324.out⟩, ⟨by (with_reducible repeat (first | refine blk_drewN ?_ _ | refine blk_drew ?_ | refine blk_alloc ?_ _)); exact BK331.out⟩, ⟨isk112_x13 HI0⟩, ⟨kbl_ HK⟩, ⟨bwi112_x13⟩⟩
 case rest =>
  clear HC7
  (try clear c19);(try clear c19b0);(try clear c19b1);(try clear hcz14_0);(try clear hcz14_1);(try clear hcz17_0);(try clear hcz17_1);(try clear hfz14_0);(try clear hfz14_1);(try clear hfz17_0);(try clear hfz17_1)
  obtain ⟨kq, x17_6, rfl, HA, HJ6, BK324, BK331, HI0, HK, HB⟩ := hcut
  cases kq with
  | zero => exact absurd HA.out (by simp [spec_l27Draw.j0])
  | succ kj6 =>
   have H := HA.out
   clear HA
   simp only [spec_l27Draw.j0] at H
   by_cases c20 : x17_6 = true
   ·subst c20
    rw [if_pos rfl] at H
    by_cases c21 : t328.size + 8 ≤ 9223372036854775807
    ·rw [if_pos c21] at H
     have c21b0 := eq_true c21
     have c21b1 : decide (t328.size + 8 ≤ 9223372036854775807) = true := decide_eq_true c21
     try have c21b2 : (9223372036854775807 < t328.size + 8) = False := eq_false (Nat.not_lt.2 c21)
     replace H := Option.bind_eq_some_iff.mp H
     obtain ⟨⟨t341, t342, t343⟩, A220, H⟩ := H
     (try dsimp only at H)
     have A22 := Aside0.mk A220
     clear A220
     by_cases c23 : t341 = true
     ·subst c23
      rw [if_pos rfl] at H
      simp only [Option.some.injEq, Prod.mk.injEq] at H
      obtain ⟨rfl, rfl, rfl, rfl⟩ := H
      have hnb24 := NB331_324.out
      have hnc24 := NB324_331.out
      have hnb25 := NB331_0.out
      have hnc25 := NB0_331.out
      have hcz26_0 := b20_ BK331
      have hcz26_1 := b21_ BK331
      have hfz26_0 := blk_frozen BK331.out 0
      have hfz26_1 := blk_frozen BK331.out 1
      go_wp2_with (first | ((with_reducible refine gate_callee (f := 75) rfl ?_); refine gl_ (some 25) Tryd.func75 #[.pointer (some ⟨g, 0, none⟩), .int .i64 2] ?_; (with_reducible refine (spec_l00Src_one.calls g s0_0 t339 t340 2 true t342 t343 w0 _ ?side1 ?side2 A22.out).mono ?_); (case side1 => exact isk112_x13 HI0); (case side2 => exact bwi112_x13); rintro e w27 ⟨rfl, hi, hb, hk⟩; refine ⟨_, rfl, ?_⟩; replace BK324 := Aside0.mk (KeepBut.blk hk (g' := gb324) (o := .cells #[.string (⟨#[]⟩ : ByteArray), .string (⟨#[]⟩ : ByteArray)] 32 (0, 0)) (by (with_reducible repeat (first | refine blk_drewN ?_ _ | refine blk_drew ?_ | refine blk_alloc ?_ _)); refine blk_far ?_ NB324_331.out _; (with_reducible repeat (first | refine blk_drewN ?_ _ | refine blk_drew ?_ | refine blk_alloc ?_ _)); exact BK324.out) NB324_0.out (by simp)); replace BK331 := Aside0.mk (KeepBut.blk hk (g' := gb331) (o := .cells #[.string (t328 ++ (⟨#[57, 58, 53, 32, 115, 97, 105, 108]⟩ : ByteArray)), .string t335] 32 (0, 0)) (by (with_reducible repeat (first | refine blk_drewN ?_ _ | refine blk_drew ?_ | refine blk_alloc ?_ _)); refine blk_put (cs := #[.string t328, .string t335]) ?_ 0 _ rfl; (with_reducible repeat (first | refine blk_drewN ?_ _ | refine blk_drew ?_ | refine blk_alloc ?_ _)); exact BK331.out) NB331_0.out (by simp)); replace HK := Aside0.mk (KeepBut.trans (kbl_ HK) hk (.inl rfl)); replace HB := Aside0.mk (hb); replace HI0 := Aside0.mk (hi); clear hb hk hi; have hcz28_0 := b20_ BK331; have hcz28_1 := b21_ BK331; have hfz28_0 := blk_frozen BK331.out 0; have hfz28_1 := blk_frozen BK331.out 1; have hnb29 := NB324_0.out; have hnc29 := NB0_324.out; have hcz30_0 := b20_ BK324; have hcz30_1 := b21_ BK324; have hfz30_0 := blk_frozen BK324.out 0; have hfz30_1 := blk_frozen BK324.out 1))
      refine bodyPost_ret (results_cell_row rfl _ _ gb324 32 #[.string (t328 ++ (⟨#[57, 58, 53, 32, 115, 97, 105, 108]⟩ : ByteArray)), .string (⟨#[]⟩ : ByteArray)] (0, 0) _ rfl (by (with_reducible repeat (first | refine blk_drewN ?_ _ | refine blk_drew ?_ | refine blk_alloc ?_ _)); refine blk_put (cs := #[.string (t328 ++ (⟨#[57, 58, 53, 32, 115, 97, 105, 108]⟩ : ByteArray)), .string (⟨#[]⟩ : ByteArray)]) ?_ 1 _ rfl; (with_reducible repeat (first | refine blk_drewN ?_ _ | refine blk_drew ?_ | refine blk_alloc ?_ _)); refine blk_put (cs := #[.string (⟨#[]⟩ : ByteArray), .string (⟨#[]⟩ : ByteArray)]) ?_ 0 _ rfl; (with_reducible repeat (first | refine blk_drewN ?_ _ | refine blk_drew ?_ | refine blk_alloc ?_ _)); refine blk_far ?_ NB324_331.out _; (with_reducible repeat (first | refine blk_drewN ?_ _ | refine blk_drew ?_ | refine blk_alloc ?_ _)); exact BK324.out) Tryd.underlying32 rfl (by kernel_rfl)) rfl ?_
      exact ⟨rr_, isk112_x13 HI0, bwi112_x13, kbl_ HK⟩
     ·replace c23 := Bool.eq_false_iff.mpr c23
      subst c23
      rw [if_neg (show ¬ (false = true) by decide)] at H
      simp only [Option.some.injEq, Prod.mk.injEq] at H
      obtain ⟨rfl, rfl, rfl, rfl⟩ := H
      have hnb31 := NB331_324.out
      have hnc31 := NB324_331.out
      have hnb32 := NB331_0.out
      have hnc32 := NB0_331.out
      have hcz33_0 := b20_ BK331
      have hcz33_1 := b21_ BK331
      have hfz33_0 := blk_frozen BK331.out 0
      have hfz33_1 := blk_frozen BK331.out 1
      go_wp2_with (first | ((with_reducible refine gate_callee (f := 75) rfl ?_); refine gl_ (some 25) Tryd.func75 #[.pointer (some ⟨g, 0, none⟩), .int .i64 2] ?_; (with_reducible refine (spec_l00Src_one.calls g s0_0 t339 t340 2 false t342 t343 w0 _ ?side1 ?side2 A22.out).mono ?_); (case side1 => exact isk112_x13 HI0); (case side2 => exact bwi112_x13); rintro e w34 ⟨rfl, hi, hb, hk⟩; refine ⟨_, rfl, ?_⟩; replace BK324 := Aside0.mk (KeepBut.blk hk (g' := gb324) (o := .cells #[.string (⟨#[]⟩ : ByteArray), .string (⟨#[]⟩ : ByteArray)] 32 (0, 0)) (by (with_reducible repeat (first | refine blk_drewN ?_ _ | refine blk_drew ?_ | refine blk_alloc ?_ _)); refine blk_far ?_ NB324_331.out _; (with_reducible repeat (first | refine blk_drewN ?_ _ | refine blk_drew ?_ | refine blk_alloc ?_ _)); exact BK324.out) NB324_0.out (by simp)); replace BK331 := Aside0.mk (KeepBut.blk hk (g' := gb331) (o := .cells #[.string (t328 ++ (⟨#[57, 58, 53, 32, 115, 97, 105, 108]⟩ : ByteArray)), .string t335] 32 (0, 0)) (by (with_reducible repeat (first | refine blk_drewN ?_ _ | refine blk_drew ?_ | refine blk_alloc ?_ _)); refine blk_put (cs := #[.string t328, .string t335]) ?_ 0 _ rfl; (with_reducible repeat (first | refine blk_drewN ?_ _ | refine blk_drew ?_ | refine blk_alloc ?_ _)); exact BK331.out) NB331_0.out (by simp)); replace HK := Aside0.mk (KeepBut.trans (kbl_ HK) hk (.inl rfl)); replace HB := Aside0.mk (hb); replace HI0 := Aside0.mk (hi); clear hb hk hi; have hcz35_0 := b20_ BK331; have hcz35_1 := b21_ BK331; have hfz35_0 := blk_frozen BK331.out 0; have hfz35_1 := blk_frozen BK331.out 1; have hnb36 := NB324_0.out; have hnc36 := NB0_324.out; have hcz37_0 := b20_ BK324; have hcz37_1 := b21_ BK324; have hfz37_0 := blk_frozen BK324.out 0; have hfz37_1 := blk_frozen BK324.out 1))
      refine bodyPost_ret (results_cell_row rfl _ _ gb324 32 #[.string (t328 ++ (⟨#[57, 58, 53, 32, 115, 97, 105, 108]⟩ : ByteArray)), .string t335] (0, 0) _ rfl (by (with_reducible repeat (first | refine blk_drewN ?_ _ | refine blk_drew ?_ | refine blk_alloc ?_ _)); refine blk_put (cs := #[.string (t328 ++ (⟨#[57, 58, 53, 32, 115, 97, 105, 108]⟩ : ByteArray)), .string (⟨#[]⟩ : ByteArray)]) ?_ 1 _ rfl; (with_reducible repeat (first | refine blk_drewN ?_ _ | refine blk_drew ?_ | refine blk_alloc ?_ _)); refine blk_put (cs := #[.string (⟨#[]⟩ : ByteArray), .string (⟨#[]⟩ : ByteArray)]) ?_ 0 _ rfl; (with_reducible repeat (first | refine blk_drewN ?_ _ | refine blk_drew ?_ | refine blk_alloc ?_ _)); exact BK324.out) Tryd.underlying32 rfl (by kernel_rfl)) rfl ?_
      exact ⟨rr_, isk112_x13 HI0, bwi112_x13, kbl_ HK⟩
    ·rw [if_neg c21] at H
     exact absurd H (by simp)
   ·replace c20 := Bool.eq_false_iff.mpr c20
    subst c20
    rw [if_neg (show ¬ (false = true) by decide)] at H
    by_cases c38 : t338 = 2
    ·rw [if_pos c38] at H
     have c38b0 : (t338 == 2) = true := beq_iff_eq.mpr c38
     have c38b1 : (t338 != 2) = false := bne_eq_false_iff_eq.mpr c38
     clear c38
     by_cases c39 : t335.size + 1 ≤ 9223372036854775807
     ·rw [if_pos c39] at H
      have c39b0 := eq_true c39
      have c39b1 : decide (t335.size + 1 ≤ 9223372036854775807) = true := decide_eq_true c39
      try have c39b2 : (9223372036854775807 < t335.size + 1) = False := eq_false (Nat.not_lt.2 c39)
      simp only [Option.some.injEq, Prod.mk.injEq] at H
      obtain ⟨rfl, rfl, rfl, rfl⟩ := H
      have hnb40 := NB331_324.out
      have hnc40 := NB324_331.out
      have hnb41 := NB331_0.out
      have hnc41 := NB0_331.out
      have hcz42_0 := b20_ BK331
      have hcz42_1 := b21_ BK331
      have hfz42_0 := blk_frozen BK331.out 0
      have hfz42_1 := blk_frozen BK331.out 1
      have hnb43 := NB324_0.out
      have hnc43 := NB0_324.out
      have hcz44_0 := b20_ BK324
      have hcz44_1 := b21_ BK324
      have hfz44_0 := blk_frozen BK324.out 0
      have hfz44_1 := blk_frozen BK324.out 1
      go_wp2
      refine bodyPost_ret (results_cell_row rfl _ _ gb324 32 #[.string t328, .string (t335 ++ (⟨#[49]⟩ : ByteArray))] (0, 0) _ rfl (by (with_reducible repeat (first | refine blk_drewN ?_ _ | refine blk_drew ?_ | refine blk_alloc ?_ _)); refine blk_put (cs := #[.string t328, .string (⟨#[]⟩ : ByteArray)]) ?_ 1 _ rfl; (with_reducible repeat (first | refine blk_drewN ?_ _ | refine blk_drew ?_ | refine blk_alloc ?_ _)); refine blk_put (cs := #[.string (⟨#[]⟩ : ByteArray), .string (⟨#[]⟩ : ByteArray)]) ?_ 0 _ rfl; (with_reducible repeat (first | refine blk_drewN ?_ _ | refine blk_drew ?_ | refine blk_alloc ?_ _)); refine blk_far ?_ NB324_331.out _; (with_reducible repeat (first | refine blk_drewN ?_ _ | refine blk_drew ?_ | refine blk_alloc ?_ _)); exact BK324.out) Tryd.underlying32 rfl (by kernel_rfl)) rfl ?_
      exact ⟨rr_, isk112_x13 HI0, bwi112_x13, kbl_ HK⟩
     ·rw [if_neg c39] at H
      exact absurd H (by simp)
    ·rw [if_neg c38] at H
     have c38b0 : (t338 == 2) = false := beq_eq_false_iff_ne.mpr c38
     have c38b1 : (t338 != 2) = true := bne_iff_ne.mpr c38
     by_cases c45 : t338 = 3
     ·rw [if_pos c45] at H
      have c45b0 : (t338 == 3) = true := beq_iff_eq.mpr c45
      have c45b1 : (t338 != 3) = false := bne_eq_false_iff_eq.mpr c45
      clear c45
      replace H := Option.bind_eq_some_iff.mp H
      obtain ⟨⟨t344, t345, t346⟩, A460, H⟩ := H
      (try dsimp only at H)
      have A46 := Aside0.mk A460
      clear A460
      have H' := Aside0.mk H
      clear H
      try go_wp2
      replace BK324 := Aside0.mk (blk_drew BK324.out)
      replace BK331 := Aside0.mk (blk_drew BK331.out)
      replace HI0 := Aside0.mk (IsS112.drew HI0.out)
      replace HK := Aside0.mk (keep_drew HK.out)
      replace HB := Aside0.mk (below_drew1 HB.out)
      refine start_ (n := 8) (S := fun w' => w'.cell? ⟨gb331, 0, none⟩ = some (.string t328) ∧ w'.cell? ⟨gb331, 1, none⟩ = some (.string t335)) (ds := []) (fl 8 0) (by kernel_rfl) rfl rfl ⟨(blk_cell BK331.out 0).trans rfl, (blk_cell BK331.out 1).trans rfl⟩ (fun hHeld => ?_); refine with_tabW spec_l27Draw.tab12 spec_l27Draw.bits12 (fun HT_ HW_ => ?_)
      generalize wc.drew = w47 at BK324 BK331 HI0 HK HB hHeld ⊢
      refine pu_ (i := 0) (N := some 35) (fl 8 1) (any_of HT_.out (by kernel_rfl)) ?_
      refine pu_ (i := 4) (N := some 39) (fl 8 17) (any_of HT_.out (by kernel_rfl)) ?_
      refine take_ (i := 1) (N := some 36) (v := ?_) (a' := ?_) (fl 8 19) rfl rfl (take_ofW HT_.out HW_.out (by kernel_rfl)) (fun _ _ _ h => h) (Or.inl ⟨by rfl, ?_⟩) hHeld ?_ ?_
      rotate_left
      ·rintro w' ⟨s0, s1⟩
       go_simp
       with_reducible rfl
      rotate_left
      ·simp only [Act.put, List.setIfInBounds_toArray, List.set_cons_zero, List.set_cons_succ, i64_w, i32_w]
       rfl
      refine pu_ (i := 2) (N := some 37) (fl 8 23) (any_of HT_.out (by kernel_rfl)) ?_
      refine pu_ (i := 3) (N := some 38) (fl 8 31) (any_of HT_.out (by kernel_rfl)) ?_
      refine one_ (i := 5) (N := some 40) (fl 8 63) rfl rfl (one_of HT_.out (by kernel_rfl)) (by decide) (fun K hK => ?_)
      refine goes_ Tryd.func77 (by kernel_rfl) rfl #[.pointer (some ⟨g, 0, none⟩), .int .i64 2] (by rfl) rfl rfl (by (try simp only [List.map_toArray, List.map_cons, List.map_nil]); first | done | rfl | (simp only [List.length_drop, List.length_take]; rfl) | (simp only [ByteArray.size_append, Int.natCast_add]; rfl)) ?_
      with_reducible refine (spec_l00Src_pick.calls g s0_0 t339 t340 2 t344 t345 t346 w0 _ ?side1 ?side2 A46.out).mono ?_
      (case side1 => exact isk112_x13 HI0)
      (case side2 => exact bwi112_x13)
      rintro e w48 ⟨rfl, hi, hb, hk⟩
      refine ⟨_, rfl, ?_⟩
      replace BK324 := Aside0.mk (KeepBut.blk hk (g' := gb324) (o := .cells #[.string (⟨#[]⟩ : ByteArray), .string (⟨#[]⟩ : ByteArray)] 32 (0, 0)) (by (with_reducible repeat (first | refine blk_drewN ?_ _ | refine blk_drew ?_ | refine blk_alloc ?_ _)); exact BK324.out) NB324_0.out (by simp))
      replace BK331 := Aside0.mk (KeepBut.blk hk (g' := gb331) (o := .cells #[.string t328, .string t335] 32 (0, 0)) (by (with_reducible repeat (first | refine blk_drewN ?_ _ | refine blk_drew ?_ | refine blk_alloc ?_ _)); exact BK331.out) NB331_0.out (by simp))
      replace HK := Aside0.mk (KeepBut.trans (kbl_ HK) hk (.inl rfl))
      replace HB := Aside0.mk (hb)
      replace HI0 := Aside0.mk (hi)
      (try clear hb);(try clear hb2);(try clear hk);(try clear hi)
      refine hK.out _ _ ⟨(blk_cell BK331.out 0).trans rfl, (blk_cell BK331.out 1).trans rfl⟩ (fun hHeld => ?_)
      clear hK K
      refine norm_ (a' := ?_) ?_ ?_
      rotate_left
      ·show Act.put _ (some 40) _ = _
       simp only [Act.put, List.setIfInBounds_toArray, List.set_cons_zero, List.set_cons_succ, i64_w, i32_w]
       rfl
      refine pu_ (i := 6) (N := some 41) (fl 8 127) (any_of HT_.out (by kernel_rfl)) ?_
      refine pu_ (i := 7) (N := some 4) (fl 8 255) (any_of HT_.out (by kernel_rfl)) ?_
      refine done_ (done_of HT_.out (by kernel_rfl)) ?_
      try go_wp2
      go_loopg [] kj6 (fun kq w' => ∃ (x332000_2 : ByteArray), Aside0 (spec_l27Draw.l0 kq (wrap64 ((wrap64 (4000 - (t335.size : Int))) + t344)) s0_0 t345 t346 x332000_2 t335 = some (r1, r2, r3, r4)) ∧ Aside0 (kq ≤ kj6) ∧ Aside0 (w'.heap[gb324]? = some (.cells #[.string (⟨#[]⟩ : ByteArray), .string (⟨#[]⟩ : ByteArray)] 32 (0, 0))) ∧ Aside0 (w'.heap[gb331]? = some (.cells #[.string x332000_2, .string t335] 32 (0, 0))) ∧ Aside0 (IsS112 w0 w' g s0_0 t345 t346) ∧ Aside0 (KeepBut w w' g none) ∧ Aside0 (Below w0.heap.size w0 w'))
      case atStart => exact ⟨(t328), H', ⟨Nat.le_refl _⟩, ⟨by (with_reducible repeat (first | refine blk_drewN ?_ _ | refine blk_drew ?_ | refine blk_alloc ?_ _)); exact BK324.out⟩, ⟨by (with_reducible repeat (first | refine blk_drewN ?_ _ | refine blk_drew ?_ | refine blk_alloc ?_ _)); exact BK331.out⟩, ⟨isk112_x13 HI0⟩, ⟨kbl_ HK⟩, ⟨bwi112_x13⟩⟩
      case round =>
       clear H'
       (try clear c19);(try clear c19b0);(try clear c19b1);(try clear c20);(try clear c21);(try clear c21b0);(try clear c21b1);(try clear c21b2);(try clear c23);(try clear c38);(try clear c38b0);(try clear c38b1);(try clear c39);(try clear c39b0);(try clear c39b1);(try clear c39b2);(try clear c45);(try clear c45b0);(try clear c45b1);(try clear hcz14_0);(try clear hcz14_1);(try clear hcz17_0);(try clear hcz17_1)
       (try clear hcz26_0);(try clear hcz26_1);(try clear hcz28_0);(try clear hcz28_1);(try clear hcz30_0);(try clear hcz30_1);(try clear hcz33_0);(try clear hcz33_1);(try clear hcz35_0);(try clear hcz35_1);(try clear hcz37_0);(try clear hcz37_1);(try clear hcz42_0);(try clear hcz42_1);(try clear hcz44_0);(try clear hcz44_1);(try clear hfz14_0);(try clear hfz14_1);(try clear hfz17_0);(try clear hfz17_1)
       (try clear hfz26_0);(try clear hfz26_1);(try clear hfz28_0);(try clear hfz28_1);(try clear hfz30_0);(try clear hfz30_1);(try clear hfz33_0);(try clear hfz33_1);(try clear hfz35_0);(try clear hfz35_1);(try clear hfz37_0);(try clear hfz37_1);(try clear hfz42_0);(try clear hfz42_1);(try clear hfz44_0);(try clear hfz44_1)
       obtain ⟨x332000_2, HA, HK2, BK324, BK331, HI0, HK, HB⟩ := hrel
       cases gk with
       | zero => exact absurd HA.out (by simp [spec_l27Draw.l0])
       | succ k2 =>
        have H := HA.out
        clear HA
        simp only [spec_l27Draw.l0] at H
        by_cases c49 : (x332000_2.size : Int) < (wrap64 ((wrap64 (4000 - (t335.size : Int))) + t344))
        ·rw [if_pos c49] at H
         have c49b0 : decide ((x332000_2.size : Int) < (wrap64 ((wrap64 (4000 - (t335.size : Int))) + t344))) = true := decide_eq_true c49
         clear c49
         by_cases c50 : x332000_2.size + 1 ≤ 9223372036854775807
         ·rw [if_pos c50] at H
          have c50b0 := eq_true c50
          have c50b1 : decide (x332000_2.size + 1 ≤ 9223372036854775807) = true := decide_eq_true c50
          try have c50b2 : (9223372036854775807 < x332000_2.size + 1) = False := eq_false (Nat.not_lt.2 c50)
          have H' := Aside0.mk H
          clear H
          have hnb51 := NB331_324.out
          have hnc51 := NB324_331.out
          have hnb52 := NB331_0.out
          have hnc52 := NB0_331.out
          have hcz53_0 := b20_ BK331
          have hcz53_1 := b21_ BK331
          have hfz53_0 := blk_frozen BK331.out 0
          have hfz53_1 := blk_frozen BK331.out 1
          go_wp2
          go_roundg k2
          case measure => have := HJ6.out; have := HK2.out; omega
          case rel => exact ⟨(x332000_2 ++ (⟨#[120]⟩ : ByteArray)), H', ⟨by have := HJ6.out; have := HK2.out; omega⟩, ⟨by (with_reducible repeat (first | refine blk_drewN ?_ _ | refine blk_drew ?_ | refine blk_alloc ?_ _)); refine blk_far ?_ NB324_331.out _; (with_reducible repeat (first | refine blk_drewN ?_ _ | refine blk_drew ?_ | refine blk_alloc ?_ _)); exact BK324.out⟩, ⟨by (with_reducible repeat (first | refine blk_drewN ?_ _ | refine blk_drew ?_ | refine blk_alloc ?_ _)); refine blk_put (cs := #[.string x332000_2, .string t335]) ?_ 0 _ rfl; (with_reducible repeat (first | refine blk_drewN ?_ _ | refine blk_drew ?_ | refine blk_alloc ?_ _)); exact BK331.out⟩, ⟨isk112_x13 HI0⟩, ⟨kbl_ HK⟩, ⟨bwi112_x13⟩⟩
         ·rw [if_neg c50] at H
          exact absurd H (by simp)
        ·rw [if_neg c49] at H
         have c49b0 : decide ((x332000_2.size : Int) < (wrap64 ((wrap64 (4000 - (t335.size : Int))) + t344))) = false := decide_eq_false c49
         clear c49
         simp only [Option.some.injEq, Prod.mk.injEq] at H
         obtain ⟨rfl, rfl, rfl, rfl⟩ := H
         have hnb54 := NB331_324.out
         have hnc54 := NB324_331.out
         have hnb55 := NB331_0.out
         have hnc55 := NB0_331.out
         have hcz56_0 := b20_ BK331
         have hcz56_1 := b21_ BK331
         have hfz56_0 := blk_frozen BK331.out 0
         have hfz56_1 := blk_frozen BK331.out 1
         have hnb57 := NB324_0.out
         have hnc57 := NB0_324.out
         have hcz58_0 := b20_ BK324
         have hcz58_1 := b21_ BK324
         have hfz58_0 := blk_frozen BK324.out 0
         have hfz58_1 := blk_frozen BK324.out 1
         go_wp2
         refine bodyPost_ret (results_cell_row rfl _ _ gb324 32 #[.string x332000_2, .string t335] (0, 0) _ rfl (by (with_reducible repeat (first | refine blk_drewN ?_ _ | refine blk_drew ?_ | refine blk_alloc ?_ _)); refine blk_put (cs := #[.string x332000_2, .string (⟨#[]⟩ : ByteArray)]) ?_ 1 _ rfl; (with_reducible repeat (first | refine blk_drewN ?_ _ | refine blk_drew ?_ | refine blk_alloc ?_ _)); refine blk_put (cs := #[.string (⟨#[]⟩ : ByteArray), .string (⟨#[]⟩ : ByteArray)]) ?_ 0 _ rfl; (with_reducible repeat (first | refine blk_drewN ?_ _ | refine blk_drew ?_ | refine blk_alloc ?_ _)); exact BK324.out) Tryd.underlying32 rfl (by kernel_rfl)) rfl ?_
         exact ⟨rr_, isk112_x13 HI0, bwi112_x13, kbl_ HK⟩
     ·rw [if_neg c45] at H
      have c45b0 : (t338 == 3) = false := beq_eq_false_iff_ne.mpr c45
      have c45b1 : (t338 != 3) = true := bne_iff_ne.mpr c45
      simp only [Option.some.injEq, Prod.mk.injEq] at H
      obtain ⟨rfl, rfl, rfl, rfl⟩ := H
      have hnb59 := NB331_324.out
      have hnc59 := NB324_331.out
      have hnb60 := NB331_0.out
      have hnc60 := NB0_331.out
      have hcz61_0 := b20_ BK331
      have hcz61_1 := b21_ BK331
      have hfz61_0 := blk_frozen BK331.out 0
      have hfz61_1 := blk_frozen BK331.out 1
      have hnb62 := NB324_0.out
      have hnc62 := NB0_324.out
      have hcz63_0 := b20_ BK324
      have hcz63_1 := b21_ BK324
      have hfz63_0 := blk_frozen BK324.out 0
      have hfz63_1 := blk_frozen BK324.out 1
      go_wp2
      refine bodyPost_ret (results_cell_row rfl _ _ gb324 32 #[.string t328, .string t335] (0, 0) _ rfl (by (with_reducible repeat (first | refine blk_drewN ?_ _ | refine blk_drew ?_ | refine blk_alloc ?_ _)); refine blk_put (cs := #[.string t328, .string (⟨#[]⟩ : ByteArray)]) ?_ 1 _ rfl; (with_reducible repeat (first | refine blk_drewN ?_ _ | refine blk_drew ?_ | refine blk_alloc ?_ _)); refine blk_put (cs := #[.string (⟨#[]⟩ : ByteArray), .string (⟨#[]⟩ : ByteArray)]) ?_ 0 _ rfl; (with_reducible repeat (first | refine blk_drewN ?_ _ | refine blk_drew ?_ | refine blk_alloc ?_ _)); exact BK324.out) Tryd.underlying32 rfl (by kernel_rfl)) rfl ?_
      exact ⟨rr_, isk112_x13 HI0, bwi112_x13, kbl_ HK⟩
def spec_l00Src_among.f (s0_0 : List Int) (s0_1 : Int) (s0_2 : Int) (l1 : List Int) : Option (Int × Int × Int) := (spec_l00Src_pick.f s0_0 s0_1 s0_2 (l1.length : Int)).bind fun bt347 => (if 0 ≤ bt347.1 then (if bt347.1 < (l1.length : Int) then (some (rd l1 bt347.1, bt347.2.1, bt347.2.2)) else (none)) else (none))
set_option maxHeartbeats 8000000 in
set_option maxRecDepth 100000 in
theorem spec_l00Src_among.calls (g : Nat) (s0_0 : List Int) (s0_1 : Int) (s0_2 : Int) (A1 : Option Addr) (c1 : Nat) (l1 : List Int) (r1 : Int) (r2 : Int) (r3 : Int) (w0 w : World) (hI : IsS112 w0 w g s0_0 s0_1 s0_2) (hB : Below w0.heap.size w0 w) (hr1 : Kd.C (Kd.int .i64) w A1 l1.length l1) (hc1 : l1.length ≤ c1) (hf1 : ∀ ad, A1 = some ad → 0 < l1.length → ad.block ≠ g) (h : spec_l00Src_among.f s0_0 s0_1 s0_2 l1 = some (r1, r2, r3)) :
  Calls Tryd.prog 76 #[.pointer (some ⟨g, 0, none⟩), .slice A1 l1.length c1] w fun e w' => e = .returned (.int .i64 r1) ∧ IsS112 w0 w' g s0_0 r2 r3 ∧ Below w0.heap.size w0 w' ∧ KeepBut w w' g none := by
 have HR1 := Aside0.mk hr1
 have HC1 := Aside0.mk hc1
 clear hr1 hc1
 have HI0 := Aside0.mk hI
 have HK := Aside0.mk (KeepBut.refl w g none)
 have HL := Aside0.mk hB.size
 clear hI
 have HW0 := Aside0.mk hB.size
 have HB := Aside0.mk hB
 clear hB
 have H : ((spec_l00Src_pick.f s0_0 s0_1 s0_2 (l1.length : Int)).bind fun bt347 => (if 0 ≤ bt347.1 then (if bt347.1 < (l1.length : Int) then (some (rd l1 bt347.1, bt347.2.1, bt347.2.2)) else (none)) else (none))) = some (r1, r2, r3) := h
 clear h
 replace H := Option.bind_eq_some_iff.mp H
 obtain ⟨⟨t347, t348, t349⟩, A30, H⟩ := H
 (try dsimp only at H)
 have A3 := Aside0.mk A30
 clear A30
 by_cases c4 : 0 ≤ t347
 ·rw [if_pos c4] at H
  have c4b0 : decide (0 ≤ t347) = true := decide_eq_true c4
  clear c4
  by_cases c5 : t347 < (l1.length : Int)
  ·rw [if_pos c5] at H
   have c5b0 : decide (t347 < (l1.length : Int)) = true := decide_eq_true c5
   clear c5
   simp only [Option.some.injEq, Prod.mk.injEq] at H
   obtain ⟨rfl, rfl, rfl⟩ := H
   go_enter Tryd.func76, Tryd.ntmps76
   go_wp2_with (first | ((with_reducible refine gate_callee (f := 77) rfl ?_); refine gl_ (some 9) Tryd.func77 #[.pointer (some ⟨g, 0, none⟩), .int .i64 (l1.length : Int)] ?_; (with_reducible refine (spec_l00Src_pick.calls g s0_0 s0_1 s0_2 (l1.length : Int) t347 t348 t349 w0 _ ?side1 ?side2 A3.out).mono ?_); (case side1 => exact isk112_x13 HI0); (case side2 => exact bwi112_x13); rintro e w6 ⟨rfl, hi, hb, hk⟩; refine ⟨_, rfl, ?_⟩; replace HK := Aside0.mk (KeepBut.trans (kbl_ HK) hk (.inl rfl)); replace HB := Aside0.mk (hb); replace HI0 := Aside0.mk (hi); clear hb hk hi; have p350 : 0 ≤ (t347 : Int) := od_; have q350 : t347 < (l1.length : Int) := od_; obtain ⟨ad350, e350, hx350_0⟩ := Kd.at_int HR1.out t347 p350 q350; cases e350; replace hx350_0 := keep_cell HK.out hx350_0 (by first | (rw [add_block]; exact hf1 _ rfl (by omega)) | exact hf1 _ rfl (by omega) | exact hf1 ad350 rfl (by omega)); replace p350 := eq_true p350; replace q350 := eq_true q350))
   go_ret
   exact ⟨rr_, isk112_x13 HI0, bwi112_x13, kbl_ HK⟩
  ·rw [if_neg c5] at H
   exact absurd H (by simp)
 ·rw [if_neg c4] at H
  exact absurd H (by simp)
end Go.Proofs.YtlcgonaapmmnkaaDoor.QFnLogs
