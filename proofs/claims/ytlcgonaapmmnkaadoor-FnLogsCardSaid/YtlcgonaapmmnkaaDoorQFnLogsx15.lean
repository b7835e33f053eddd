import Derived.Test.YtlcgonaapmmnkaaDoorSq
import Derived.Test.YtlcgonaapmmnkaaDoorQFnLogsx0
import Derived.Test.YtlcgonaapmmnkaaDoorQFnLogsx12
import Derived.Test.YtlcgonaapmmnkaaDoorQFnLogsx13
namespace Go.Proofs.YtlcgonaapmmnkaaDoor.QFnLogs
open Sq (fl pu_ gl_ b20_ b21_ b30_ b31_ b32_ od_ rr_ be_)
open Base (bwl_ bst_ bsz_ bkb_ nbl_ nbr_ kbl_ bkm_)
open Go.RowKit Go.Proofs.YtlcgonaapmmnkaaDoorW.PrintWords Go.Proofs.YtlcgonaapmmnkaaDoorW.PrintLast Go.Proofs.YtlcgonaapmmnkaaDoorW.PrintMore
attribute [local go_sem] max2_int min2_int max_two min_two max_three min_three max_four min_four
set_option linter.unusedVariables false
set_option linter.unusedSimpArgs false
theorem isk112_x15 {P Q : Prop} (h : Aside0 P) (k : P → Q := by (intro h; repeat (first | (with_reducible first | exact h | apply IsS112.alloc | apply IsS112.drew | apply IsS112.drewN | apply IsS112.set_1 | apply IsS112.set_2 | refine IsS112.far ?_ (Aside0.out (by assumption)) _) | exact h))) : Q := k h.out
theorem bwi112_x15 {w W : World} (h : Below w.heap.size w W := by repeat (first | (with_reducible first | exact HB.out | apply below_alloc | apply pw_below_drewN | apply below_drew1 | refine below_set ?_ (Aside0.out (by assumption)) | refine below_set ?_ (IsS112.ge (Aside0.out (by assumption)))) | exact HB.out)) : Below w.heap.size w W := h
def spec_l01Spoil.f (s0_0 : List Int) (s0_1 : Int) (s0_2 : Int) (a1 : ByteArray) : Option (ByteArray × Int × Int) := (spec_l00Src_pick.f s0_0 s0_1 s0_2 5).bind fun bt393 => (if bt393.1 = 0 then ((spec_l00Src_pick.f s0_0 bt393.2.1 bt393.2.2 (wrap64 ((a1.size : Int) + 1))).bind fun bt396 => (if 0 ≤ bt396.1 then (if bt396.1 ≤ (a1.size : Int) then ((spec_l00Src_text.f s0_0 bt396.2.1 bt396.2.2 (([(⟨#[32]⟩ : ByteArray), (⟨#[48]⟩ : ByteArray), (⟨#[45]⟩ : ByteArray), (⟨#[120]⟩ : ByteArray), (⟨#[49]⟩ : ByteArray), (⟨#[57]⟩ : ByteArray), (⟨#[46]⟩ : ByteArray)] : List ByteArray))).bind fun bt402 => (if (a1.extract 0 (bt396.1 : Int).toNat).size + bt402.1.size ≤ 9223372036854775807 then (if ((a1.extract 0 (bt396.1 : Int).toNat) ++ bt402.1).size + (a1.extract (bt396.1 : Int).toNat a1.size).size ≤ 9223372036854775807 then (some (((a1.extract 0 (bt396.1 : Int).toNat) ++ bt402.1) ++ (a1.extract (bt396.1 : Int).toNat a1.size), bt402.2.1, bt402.2.2)) else (none)) else (none))) else (none)) else (none))) else (if bt393.1 = 1 then (if a1.toList = ([] : List UInt8) then (some (a1, bt393.2.1, bt393.2.2)) else ((spec_l00Src_pick.f s0_0 bt393.2.1 bt393.2.2 (a1.size : Int)).bind fun bt405 => (if 0 ≤ bt405.1 then (if bt405.1 ≤ (a1.size : Int) then (if 0 ≤ (wrap64 (bt405.1 + 1)) then (if (wrap64 (bt405.1 + 1)) ≤ (a1.size : Int) then (if (a1.extract 0 (bt405.1 : Int).toNat).size + (a1.extract ((wrap64 (bt405.1 + 1)) : Int).toNat a1.size).size ≤ 9223372036854775807 then (some ((a1.extract 0 (bt405.1 : Int).toNat) ++ (a1.extract ((wrap64 (bt405.1 + 1)) : Int).toNat a1.size), bt405.2.1, bt405.2.2)) else (none)) else (none)) else (none)) else (none)) else (none)))) else (some (a1, bt393.2.1, bt393.2.2))))
def spec_l01Spoil.T4 : Bool × List (List Nat × List Nat) := (true, [([], []), ([], []), ([0, 1], [0, 1]), ([], []), ([], []), ([3, 4], [3, 4]), ([2, 5], [2, 5]), ([], []), ([], []), ([7, 8], [7, 8]), ([6, 9], [6, 9]), ([10, 5, 0, 1, 2, 3, 4, 5, 6, 7, 8, 9, 10], [0, 7, 10])])
def spec_l01Spoil.B4 : List Nat := [0, 0, 3, 0, 0, 24, 63, 0, 0, 384, 1023, 2047]
theorem spec_l01Spoil.tab4 : rtab .any (opsOf Tryd.f81 4) = spec_l01Spoil.T4 := by kernel_rfl
theorem spec_l01Spoil.bits4 : waitsOk spec_l01Spoil.T4.2 spec_l01Spoil.B4 = true := by kernel_rfl
def spec_l01Spoil.T8 : Bool × List (List Nat × List Nat) := (true, [([], []), ([], []), ([0, 1], [0, 1]), ([], []), ([], []), ([4], [4]), ([3, 5], [3, 5]), ([2, 6], [2, 6]), ([7, 0, 1, 2, 3, 4, 5, 6, 7], [0, 3, 7])])
def spec_l01Spoil.B8 : List Nat := [0, 0, 3, 0, 0, 16, 56, 127, 255]
theorem spec_l01Spoil.tab8 : rtab .any (opsOf Tryd.f81 8) = spec_l01Spoil.T8 := by kernel_rfl
theorem spec_l01Spoil.bits8 : waitsOk spec_l01Spoil.T8.2 spec_l01Spoil.B8 = true := by kernel_rfl
set_option maxHeartbeats 8000000 in
set_option maxRecDepth 100000 in
theorem spec_l01Spoil.calls (g : Nat) (s0_0 : List Int) (s0_1 : Int) (s0_2 : Int) (a1 : ByteArray) (r1 : ByteArray) (r2 : Int) (r3 : Int) (w0 w : World) (hI : IsS112 w0 w g s0_0 s0_1 s0_2) (hB : Below w0.heap.size w0 w) (h : spec_l01Spoil.f s0_0 s0_1 s0_2 a1 = some (r1, r2, r3)) :
  Calls Tryd.prog 81 #[.pointer (some ⟨g, 0, none⟩), .string a1] w fun e w' => e = .returned (.string r1) ∧ IsS112 w0 w' g s0_0 r2 r3 ∧ Below w0.heap.size w0 w' ∧ KeepBut w w' g none := by
 have HI0 := Aside0.mk hI
 have HK := Aside0.mk (KeepBut.refl w g none)
 have HL := Aside0.mk hB.size
 clear hI
 have HW0 := Aside0.mk hB.size
 have HB := Aside0.mk hB
 clear hB
 have H : ((spec_l00Src_pick.f s0_0 s0_1 s0_2 5).bind fun bt393 => (if bt393.1 = 0 then ((spec_l00Src_pick.f s0_0 bt393.2.1 bt393.2.2 (wrap64 ((a1.size : Int) + 1))).bind fun bt396 => (if 0 ≤ bt396.1 then (if bt396.1 ≤ (a1.size : Int) then ((spec_l00Src_text.f s0_0 bt396.2.1 bt396.2.2 (([(⟨#[32]⟩ : ByteArray), (⟨#[48]⟩ : ByteArray), (⟨#[45]⟩ : ByteArray), (⟨#[120]⟩ : ByteArray), (⟨#[49]⟩ : ByteArray), (⟨#[57]⟩ : ByteArray), (⟨#[46]⟩ : ByteArray)] : List ByteArray))).bind fun bt402 => (if (a1.extract 0 (bt396.1 : Int).toNat).size + bt402.1.size ≤ 9223372036854775807 then (if ((a1.extract 0 (bt396.1 : Int).toNat) ++ bt402.1).size + (a1.extract (bt396.1 : Int).toNat a1.size).size ≤ 9223372036854775807 then (some (((a1.extract 0 (bt396.1 : Int).toNat) ++ bt402.1) ++ (a1.extract (bt396.1 : Int).toNat a1.size), bt402.2.1, bt402.2.2)) else (none)) else (none))) else (none)) else (none))) else (if bt393.1 = 1 then (if a1.toList = ([] : List UInt8) then (some (a1, bt393.2.1, bt393.2.2)) else ((spec_l00Src_pick.f s0_0 bt393.2.1 bt393.2.2 (a1.size : Int)).bind fun bt405 => (if 0 ≤ bt405.1 then (if bt405.1 ≤ (a1.size : Int) then (if 0 ≤ (wrap64 (bt405.1 + 1)) then (if (wrap64 (bt405.1 + 1)) ≤ (a1.size : Int) then (if (a1.extract 0 (bt405.1 : Int).toNat).size + (a1.extract ((wrap64 (bt405.1 + 1)) : Int).toNat a1.size).size ≤ 9223372036854775807 then (some ((a1.extract 0 (bt405.1 : Int).toNat) ++ (a1.extract ((wrap64 (bt405.1 + 1)) : Int).toNat a1.size), bt405.2.1, bt405.2.2)) else (none)) else (none)) else (none)) else (none)) else (none)))) else (some (a1, bt393.2.1, bt393.2.2))))) = some (r1, r2, r3) := h
 clear h
 replace H := Option.bind_eq_some_iff.mp H
 obtain ⟨⟨t393, t394, t395⟩, A30, H⟩ := H
 (try dsimp only at H)
 have A3 := Aside0.mk A30
 clear A30
 by_cases c4 : t393 = 0
 ·rw [if_pos c4] at H
  have c4b0 : (t393 == 0) = true := beq_iff_eq.mpr c4
  have c4b1 : (t393 != 0) = false := bne_eq_false_iff_eq.mpr c4
  clear c4
  replace H := Option.bind_eq_some_iff.mp H
  obtain ⟨⟨t396, t397, t398⟩, A50, H⟩ := H
  (try dsimp only at H)
  have A5 := Aside0.mk A50
  clear A50
  by_cases c6 : 0 ≤ t396
  ·rw [if_pos c6] at H
   have c6b0 := eq_true c6
   have c6b1 : decide (0 ≤ t396) = true := decide_eq_true c6
   clear c6
   by_cases c7 : t396 ≤ (a1.size : Int)
   ·rw [if_pos c7] at H
    have c7b0 := eq_true c7
    have c7b1 : decide (t396 ≤ (a1.size : Int)) = true := decide_eq_true c7
    clear c7
    obtain ⟨y399, hy399⟩ : ∃ y_ : List ByteArray, y_ = (([(⟨#[32]⟩ : ByteArray), (⟨#[48]⟩ : ByteArray), (⟨#[45]⟩ : ByteArray), (⟨#[120]⟩ : ByteArray), (⟨#[49]⟩ : ByteArray), (⟨#[57]⟩ : ByteArray), (⟨#[46]⟩ : ByteArray)] : List ByteArray)) := ⟨_, rfl⟩
    replace H : ((spec_l00Src_text.f s0_0 t397 t398 y399).bind fun bt402 => (if (a1.extract 0 (t396 : Int).toNat).size + bt402.1.size ≤ 9223372036854775807 then (if ((a1.extract 0 (t396 : Int).toNat) ++ bt402.1).size + (a1.extract (t396 : Int).toNat a1.size).size ≤ 9223372036854775807 then (some (((a1.extract 0 (t396 : Int).toNat) ++ bt402.1) ++ (a1.extract (t396 : Int).toNat a1.size), bt402.2.1, bt402.2.2)) else (none)) else (none))) = some (r1, r2, r3) := by first | (rw [hy399]; with_reducible exact H) | (have H2_ := (Option.bind_some _ _).symm.trans H; rw [hy399]; with_reducible exact H2_) | (have H2_ := (Option.bind_some _ _).symm.trans H; with_reducible exact H2_) | with_reducible exact H | (rw [hy399]; exact H) | exact H
    have Ny399 := Aside0.mk hy399
    clear hy399
    replace H := Option.bind_eq_some_iff.mp H
    obtain ⟨⟨t402, t403, t404⟩, A80, H⟩ := H
    (try dsimp only at H)
    have A8 := Aside0.mk A80
    clear A80
    by_cases c9 : (a1.extract 0 (t396 : Int).toNat).size + t402.size ≤ 9223372036854775807
    ·rw [if_pos c9] at H
     have c9b0 := eq_true c9
     have c9b1 : decide ((a1.extract 0 (t396 : Int).toNat).size + t402.size ≤ 9223372036854775807) = true := decide_eq_true c9
     try have c9b2 : (9223372036854775807 < (a1.extract 0 (t396 : Int).toNat).size + t402.size) = False := eq_false (Nat.not_lt.2 c9)
     try have c9b4 : (9223372036854775807 < (t396).toNat + t402.size) = False := eq_false (by have h := c9; (try have g6 := of_decide_eq_true c6b1); (try have g7 := of_decide_eq_true c7b1); (try have g8 := of_decide_eq_true c8b1); simp only [ByteArray.size_extract] at h; omega)
     have c10b0 := eq_true (od_ : 0 ≤ t396)
     have c11b0 := eq_true (od_ : t396 ≤ (a1.size : Int))
     by_cases c12 : ((a1.extract 0 (t396 : Int).toNat) ++ t402).size + (a1.extract (t396 : Int).toNat a1.size).size ≤ 9223372036854775807
     ·rw [if_pos c12] at H
      have c12b0 := eq_true c12
      have c12b1 : decide (((a1.extract 0 (t396 : Int).toNat) ++ t402).size + (a1.extract (t396 : Int).toNat a1.size).size ≤ 9223372036854775807) = true := decide_eq_true c12
      try have c12b2 : (9223372036854775807 < ((a1.extract 0 (t396 : Int).toNat) ++ t402).size + (a1.extract (t396 : Int).toNat a1.size).size) = False := eq_false (Nat.not_lt.2 c12)
      try (have c12b3 := c12b2; simp only [ByteArray.size_append] at c12b3)
      have c12b5 : (9223372036854775807 < t396.toNat + t402.size + (a1.size - t396.toNat)) = False := eq_false (by have h := c12; have g6 := of_decide_eq_true c6b1; have g7 := of_decide_eq_true c7b1; simp only [ByteArray.size_append, ByteArray.size_extract] at h; omega)
      simp only [Option.some.injEq, Prod.mk.injEq] at H
      obtain ⟨rfl, rfl, rfl⟩ := H
      go_enter Tryd.func81, Tryd.ntmps81
      try go_wp2_with (first | ((with_reducible refine gate_callee (f := 77) rfl ?_); refine gl_ (some 8) Tryd.func77 #[.pointer (some ⟨g, 0, none⟩), .int .i64 5] ?_; (with_reducible refine (spec_l00Src_pick.calls g s0_0 s0_1 s0_2 5 t393 t394 t395 w0 _ ?side1 ?side2 A3.out).mono ?_); (case side1 => exact isk112_x15 HI0); (case side2 => exact bwi112_x15); rintro e w13 ⟨rfl, hi, hb, hk⟩; refine ⟨_, rfl, ?_⟩; replace HK := Aside0.mk (KeepBut.trans (kbl_ HK) hk (.inl rfl)); replace HB := Aside0.mk (hb); replace HI0 := Aside0.mk (hi); clear hb hk hi) | ((with_reducible refine gate_callee (f := 77) rfl ?_); refine gl_ (some 15) Tryd.func77 #[.pointer (some ⟨g, 0, none⟩), .int .i64 (wrap64 ((a1.size : Int) + 1))] ?_; (with_reducible refine (spec_l00Src_pick.calls g s0_0 t394 t395 (wrap64 ((a1.size : Int) + 1)) t396 t397 t398 w0 _ ?side1 ?side2 A5.out).mono ?_); (case side1 => exact isk112_x15 HI0); (case side2 => exact bwi112_x15); rintro e w14 ⟨rfl, hi, hb, hk⟩; refine ⟨_, rfl, ?_⟩; replace HK := Aside0.mk (KeepBut.trans (kbl_ HK) hk (.inl rfl)); replace HB := Aside0.mk (hb); replace HI0 := Aside0.mk (hi); clear hb hk hi))
      replace HI0 := Aside0.mk (IsS112.drew HI0.out)
      replace HK := Aside0.mk (keep_drew HK.out)
      replace HB := Aside0.mk (below_drew1 HB.out)
      refine start_ (n := 12) (S := fun w' => True) (ds := []) (fl 12 0) (by kernel_rfl) rfl rfl trivial (fun hHeld => ?_); refine with_tabW spec_l01Spoil.tab4 spec_l01Spoil.bits4 (fun HT_ HW_ => ?_)
      generalize w14.drew = w15 at HI0 HK HB hHeld ⊢
      refine pu_ (i := 0) (N := some 16) (fl 12 1) (any_of HT_.out (by kernel_rfl)) ?_
      refine pu_ (i := 1) (N := some 17) (fl 12 3) (any_of HT_.out (by kernel_rfl)) ?_
      refine pu_ (i := 2) (N := some 18) (fl 12 7) (any_of HT_.out (by kernel_rfl)) ?_
      refine pu_ (i := 3) (N := some 19) (fl 12 15) (any_of HT_.out (by kernel_rfl)) ?_
      refine pu_ (i := 7) (N := some 23) (fl 12 143) (any_of HT_.out (by kernel_rfl)) ?_
      refine pu_ (i := 8) (N := some 24) (fl 12 399) (any_of HT_.out (by kernel_rfl)) ?_
      refine pu_ (i := 9) (N := some 25) (fl 12 911) (any_of HT_.out (by kernel_rfl)) ?_
      refine one_ (i := 4) (N := some 20) (fl 12 927) rfl rfl (one_of HT_.out (by kernel_rfl)) (by decide) (fun K hK => ?_)
      refine Kd.R_lit_step Kd.string _ 9 ?hg (N := 20) ?hd (xs := ([(⟨#[32]⟩ : ByteArray), (⟨#[48]⟩ : ByteArray), (⟨#[45]⟩ : ByteArray), (⟨#[120]⟩ : ByteArray), (⟨#[49]⟩ : ByteArray), (⟨#[57]⟩ : ByteArray), (⟨#[46]⟩ : ByteArray)] : List ByteArray)) (inner := [.string (⟨#[32]⟩ : ByteArray), .string (⟨#[48]⟩ : ByteArray), .string (⟨#[45]⟩ : ByteArray), .string (⟨#[120]⟩ : ByteArray), .string (⟨#[49]⟩ : ByteArray), .string (⟨#[57]⟩ : ByteArray), .string (⟨#[46]⟩ : ByteArray)]) (ok := fun _ => True) (okp := fun _ => True) ?hr ?hp (fun _ hk => hk) trivial (Below.refl _ _) (Nat.le_refl _) (by simp) ?_; (case hd => rfl); (case hg => rfl); (case hr => first | (go_simp; done) | (go_simp; rfl)); (case hp => exact (Reps.one (show Kd.M Kd.string _ _ _ (⟨#[32]⟩ : ByteArray) [.string (⟨#[32]⟩ : ByteArray)] from rfl) (Reps.one (show Kd.M Kd.string _ _ _ (⟨#[48]⟩ : ByteArray) [.string (⟨#[48]⟩ : ByteArray)] from rfl) (Reps.one (show Kd.M Kd.string _ _ _ (⟨#[45]⟩ : ByteArray) [.string (⟨#[45]⟩ : ByteArray)] from rfl) (Reps.one (show Kd.M Kd.string _ _ _ (⟨#[120]⟩ : ByteArray) [.string (⟨#[120]⟩ : ByteArray)] from rfl) (Reps.one (show Kd.M Kd.string _ _ _ (⟨#[49]⟩ : ByteArray) [.string (⟨#[49]⟩ : ByteArray)] from rfl) (Reps.one (show Kd.M Kd.string _ _ _ (⟨#[57]⟩ : ByteArray) [.string (⟨#[57]⟩ : ByteArray)] from rfl) (Reps.one (show Kd.M Kd.string _ _ _ (⟨#[46]⟩ : ByteArray) [.string (⟨#[46]⟩ : ByteArray)] from rfl) (Reps.none _ _)))))))))
      intro v400 w16 ho17 hb hg_ hnew_
      clear hg_ hnew_
      (first | rw [← Ny399.out] at ho17 | (simp only [Int.reduceToNat] at ho17; rw [← Ny399.out] at ho17))
      have HO401 := Aside0.mk (Kd.R_lower ho17 (keep_size (w := w) (g := g) (row := none) (kbl_ HK)))
      replace HK := Aside0.mk (KeepBut.trans (kbl_ HK) (KeepBut.of_below hb g none) (.inl rfl))
      replace HB := Aside0.mk (below_step bwi112_x15 hb)
      replace HI0 := Aside0.mk (IsS112.below (isk112_x15 HI0) hb)
      clear hb ho17
      obtain ⟨Ao18, co18, eo18⟩ := Kd.R_slice HO401.out
      (first | subst eo18 | (injection eo18 with f1_ f2_ f3_; have f4_ := f1_.symm; have f5_ := f3_.symm; clear f1_ f2_ f3_; subst f4_; subst f5_))
      refine hK.out _ _ trivial (fun hHeld => ?_)
      clear hK K
      refine norm_ (a' := ?_) ?_ ?_
      rotate_left
      ·show Act.put _ (some 20) _ = _
       simp only [Act.put, List.setIfInBounds_toArray, List.set_cons_zero, List.set_cons_succ, i64_w, i32_w]
       rfl
      refine one_ (i := 5) (N := some 21) (fl 12 959) rfl rfl (one_of HT_.out (by kernel_rfl)) (by decide) (fun K hK => ?_)
      refine goes_ Tryd.func82 (by kernel_rfl) rfl #[.pointer (some ⟨g, 0, none⟩), .slice Ao18 y399.length co18] (by rfl) rfl rfl (by (try simp only [List.map_toArray, List.map_cons, List.map_nil]); first | done | rfl | (simp only [List.length_drop, List.length_take]; rfl) | (simp only [ByteArray.size_append, Int.natCast_add]; rfl)) ?_
      with_reducible refine (spec_l00Src_text.calls g s0_0 t397 t398 _ _ y399 t402 t403 t404 w0 _ ?side1 ?side2 ?side3 ?side4 ?side5 A8.out).mono ?_
      (case side1 => exact isk112_x15 HI0)
      (case side2 => exact bwi112_x15)
      (case side3 => repeat (first | exact (Kd.R_reads' HO401.out).2.2 | (with_reducible refine Kd.C_alloc ?_ _) | (with_reducible refine Kd.C_drewN ?_ _) | (with_reducible refine Kd.C_drew ?_)))
      (case side4 => exact (Kd.R_reads' HO401.out).2.1)
      (case side5 => exact far_slice (IsS112.own_ne HI0.out HO401.out (by decide)))
      rintro e w19 ⟨rfl, hi, hb, hk⟩
      refine ⟨_, rfl, ?_⟩
      replace HO401 := Aside0.mk (Kd.R_mono (Kd.R_keep (IsS112.apart (show IsS112 w0 _ g s0_0 t397 t398 from by repeat (first | (with_reducible first | exact HI0.out | apply IsS112.alloc | apply IsS112.drewN | apply IsS112.drew | apply IsS112.set_1 | apply IsS112.set_2) | exact HI0.out)) (by (with_reducible repeat (first | apply Kd.R_alloc | apply Kd.R_drewN | apply Kd.R_drew)); exact HO401.out) (by decide)) hk (fun _ h => h.2)) (fun _ h => h.1))
      replace HK := Aside0.mk (KeepBut.trans (kbl_ HK) hk (.inl rfl))
      replace HB := Aside0.mk (hb)
      replace HI0 := Aside0.mk (hi)
      (try clear hb);(try clear hb2);(try clear hk);(try clear hi)
      refine hK.out _ _ trivial (fun hHeld => ?_)
      clear hK K
      refine norm_ (a' := ?_) ?_ ?_
      rotate_left
      ·show Act.put _ (some 21) _ = _
       simp only [Act.put, List.setIfInBounds_toArray, List.set_cons_zero, List.set_cons_succ, i64_w, i32_w]
       rfl
      refine pu_ (i := 6) (N := some 22) (fl 12 1023) (any_of HT_.out (by kernel_rfl)) ?_
      refine pu_ (i := 10) (N := some 26) (fl 12 2047) (any_of HT_.out (by kernel_rfl)) ?_
      refine pu_ (i := 11) (N := some 1) (fl 12 4095) (any_of HT_.out (by kernel_rfl)) ?_
      refine done_ (done_of HT_.out (by kernel_rfl)) ?_
      try go_wp2
      go_ret
      exact ⟨rr_, isk112_x15 HI0, bwi112_x15, kbl_ HK⟩
     ·rw [if_neg c12] at H
      exact absurd H (by simp)
    ·rw [if_neg c9] at H
     exact absurd H (by simp)
   ·rw [if_neg c7] at H
    exact absurd H (by simp)
  ·rw [if_neg c6] at H
   exact absurd H (by simp)
 ·rw [if_neg c4] at H
  have c4b0 : (t393 == 0) = false := beq_eq_false_iff_ne.mpr c4
  have c4b1 : (t393 != 0) = true := bne_iff_ne.mpr c4
  by_cases c20 : t393 = 1
  ·rw [if_pos c20] at H
   have c20b0 : (t393 == 1) = true := beq_iff_eq.mpr c20
   have c20b1 : (t393 != 1) = false := bne_eq_false_iff_eq.mpr c20
   clear c20
   by_cases c21 : a1.toList = ([] : List UInt8)
   ·rw [if_pos c21] at H
    have c21b0 : (a1.toList == ([] : List UInt8)) = true := beq_iff_eq.mpr c21
    have c21b1 : (a1.toList != ([] : List UInt8)) = false := bne_eq_false_iff_eq.mpr c21
    clear c21
    simp only [Option.some.injEq, Prod.mk.injEq] at H
    obtain ⟨rfl, rfl, rfl⟩ := H
    go_enter Tryd.func81, Tryd.ntmps81
    go_wp2_with (first | ((with_reducible refine gate_callee (f := 77) rfl ?_); refine gl_ (some 8) Tryd.func77 #[.pointer (some ⟨g, 0, none⟩), .int .i64 5] ?_; (with_reducible refine (spec_l00Src_pick.calls g s0_0 s0_1 s0_2 5 t393 t394 t395 w0 _ ?side1 ?side2 A3.out).mono ?_); (case side1 => exact isk112_x15 HI0); (case side2 => exact bwi112_x15); rintro e w22 ⟨rfl, hi, hb, hk⟩; refine ⟨_, rfl, ?_⟩; replace HK := Aside0.mk (KeepBut.trans (kbl_ HK) hk (.inl rfl)); replace HB := Aside0.mk (hb); replace HI0 := Aside0.mk (hi); clear hb hk hi))
    go_ret
    exact ⟨rr_, isk112_x15 HI0, bwi112_x15, kbl_ HK⟩
   ·rw [if_neg c21] at H
    have c21b0 : (a1.toList == ([] : List UInt8)) = false := beq_eq_false_iff_ne.mpr c21
    have c21b1 : (a1.toList != ([] : List UInt8)) = true := bne_iff_ne.mpr c21
    replace H := Option.bind_eq_some_iff.mp H
    obtain ⟨⟨t405, t406, t407⟩, A230, H⟩ := H
    (try dsimp only at H)
    have A23 := Aside0.mk A230
    clear A230
    by_cases c24 : 0 ≤ t405
    ·rw [if_pos c24] at H
     have c24b0 := eq_true c24
     have c24b1 : decide (0 ≤ t405) = true := decide_eq_true c24
     clear c24
     by_cases c25 : t405 ≤ (a1.size : Int)
     ·rw [if_pos c25] at H
      have c25b0 := eq_true c25
      have c25b1 : decide (t405 ≤ (a1.size : Int)) = true := decide_eq_true c25
      clear c25
      obtain ⟨ji26, hji26⟩ : ∃ j_ : Int, (wrap64 (t405 + 1)) = j_ := ⟨_, rfl⟩
      replace H : (if 0 ≤ (ji26) then (if (ji26) ≤ (a1.size : Int) then (if (a1.extract 0 (t405 : Int).toNat).size + (a1.extract ((ji26) : Int).toNat a1.size).size ≤ 9223372036854775807 then (some ((a1.extract 0 (t405 : Int).toNat) ++ (a1.extract ((ji26) : Int).toNat a1.size), t406, t407)) else (none)) else (none)) else (none)) = some (r1, r2, r3) := by first | (rw [hji26] at H; exact H) | (simp only [hji26] at H ⊢; exact H)
      (try rw [hji26] at A3)
      (try rw [hji26] at A23)
      have hji26w : (IntKind.i64.wrap (t405 + 1)) = ji26 := (i64_w _).trans hji26
      by_cases c27 : 0 ≤ (ji26)
      ·rw [if_pos c27] at H
       have c27b0 := eq_true c27
       have c27b1 : decide (0 ≤ (ji26)) = true := decide_eq_true c27
       clear c27
       by_cases c28 : (ji26) ≤ (a1.size : Int)
       ·rw [if_pos c28] at H
        have c28b0 := eq_true c28
        have c28b1 : decide ((ji26) ≤ (a1.size : Int)) = true := decide_eq_true c28
        clear c28
        by_cases c29 : (a1.extract 0 (t405 : Int).toNat).size + (a1.extract ((ji26) : Int).toNat a1.size).size ≤ 9223372036854775807
        ·rw [if_pos c29] at H
         have c29b0 := eq_true c29
         have c29b1 : decide ((a1.extract 0 (t405 : Int).toNat).size + (a1.extract ((ji26) : Int).toNat a1.size).size ≤ 9223372036854775807) = true := decide_eq_true c29
         try have c29b2 : (9223372036854775807 < (a1.extract 0 (t405 : Int).toNat).size + (a1.extract ((ji26) : Int).toNat a1.size).size) = False := eq_false (Nat.not_lt.2 c29)
         have c29b5 : (9223372036854775807 < t405.toNat + (a1.size - ji26.toNat)) = False := eq_false (by have h := c29; have g1 := of_decide_eq_true c24b1; have g2 := of_decide_eq_true c25b1; have g3 := of_decide_eq_true c27b1; have g4 := of_decide_eq_true c28b1; simp only [ByteArray.size_extract] at h; omega)
         try have c29b4 : (9223372036854775807 < (t405).toNat + (a1.extract ((ji26) : Int).toNat a1.size).size) = False := eq_false (by have h := c29; (try have g26 := of_decide_eq_true c26b1); (try have g27 := of_decide_eq_true c27b1); (try have g28 := of_decide_eq_true c28b1); simp only [ByteArray.size_extract] at h; omega)
         simp only [Option.some.injEq, Prod.mk.injEq] at H
         obtain ⟨rfl, rfl, rfl⟩ := H
         go_enter Tryd.func81, Tryd.ntmps81
         try go_wp2_with (first | ((with_reducible refine gate_callee (f := 77) rfl ?_); refine gl_ (some 8) Tryd.func77 #[.pointer (some ⟨g, 0, none⟩), .int .i64 5] ?_; (with_reducible refine (spec_l00Src_pick.calls g s0_0 s0_1 s0_2 5 t393 t394 t395 w0 _ ?side1 ?side2 A3.out).mono ?_); (case side1 => exact isk112_x15 HI0); (case side2 => exact bwi112_x15); rintro e w30 ⟨rfl, hi, hb, hk⟩; refine ⟨_, rfl, ?_⟩; replace HK := Aside0.mk (KeepBut.trans (kbl_ HK) hk (.inl rfl)); replace HB := Aside0.mk (hb); replace HI0 := Aside0.mk (hi); clear hb hk hi) | ((with_reducible refine gate_callee (f := 77) rfl ?_); refine gl_ (some 34) Tryd.func77 #[.pointer (some ⟨g, 0, none⟩), .int .i64 (a1.size : Int)] ?_; (with_reducible refine (spec_l00Src_pick.calls g s0_0 t394 t395 (a1.size : Int) t405 t406 t407 w0 _ ?side1 ?side2 A23.out).mono ?_); (case side1 => exact isk112_x15 HI0); (case side2 => exact bwi112_x15); rintro e w31 ⟨rfl, hi, hb, hk⟩; refine ⟨_, rfl, ?_⟩; replace HK := Aside0.mk (KeepBut.trans (kbl_ HK) hk (.inl rfl)); replace HB := Aside0.mk (hb); replace HI0 := Aside0.mk (hi); clear hb hk hi))
         replace HI0 := Aside0.mk (IsS112.drew HI0.out)
         replace HK := Aside0.mk (keep_drew HK.out)
         replace HB := Aside0.mk (below_drew1 HB.out)
         refine start_ (n := 9) (S := fun w' => True) (ds := []) (fl 9 0) (by kernel_rfl) rfl rfl trivial (fun hHeld => ?_); refine with_tabW spec_l01Spoil.tab8 spec_l01Spoil.bits8 (fun HT_ HW_ => ?_)
         generalize w31.drew = w32 at HI0 HK HB hHeld ⊢
         refine pu_ (i := 0) (N := some 35) (fl 9 1) (any_of HT_.out (by kernel_rfl)) ?_
         refine pu_ (i := 1) (N := some 36) (fl 9 3) (any_of HT_.out (by kernel_rfl)) ?_
         refine pu_ (i := 2) (N := some 37) (fl 9 7) (any_of HT_.out (by kernel_rfl)) ?_
         refine pu_ (i := 3) (N := some 38) (fl 9 15) (any_of HT_.out (by kernel_rfl)) ?_
         refine pu_ (i := 4) (N := some 39) (fl 9 31) (any_of HT_.out (by kernel_rfl)) ?_
         refine pu_ (i := 5) (N := some 40) (fl 9 63) (any_of HT_.out (by kernel_rfl)) ?_
         refine pu_ (i := 6) (N := some 41) (fl 9 127) (any_of HT_.out (by kernel_rfl)) ?_
         refine pu_ (i := 7) (N := some 42) (fl 9 255) (any_of HT_.out (by kernel_rfl)) ?_
         refine pu_ (i := 8) (N := some 1) (fl 9 511) (any_of HT_.out (by kernel_rfl)) ?_
         refine done_ (done_of HT_.out (by kernel_rfl)) ?_
         try go_wp2
         go_ret
         exact ⟨by first | rfl | (simp [errW_none, errW_some] <;> rfl) | (simp only [← hji26]; first | rfl | (simp [errW_none, errW_some] <;> rfl)) | (simp [*, errW_none, errW_some] <;> rfl), isk112_x15 HI0, bwi112_x15, kbl_ HK⟩
        ·rw [if_neg c29] at H
         exact absurd H (by simp)
       ·rw [if_neg c28] at H
        exact absurd H (by simp)
      ·rw [if_neg c27] at H
       exact absurd H (by simp)
     ·rw [if_neg c25] at H
      exact absurd H (by simp)
    ·rw [if_neg c24] at H
     exact absurd H (by simp)
  ·rw [if_neg c20] at H
   have c20b0 : (t393 == 1) = false := beq_eq_false_iff_ne.mpr c20
   have c20b1 : (t393 != 1) = true := bne_iff_ne.mpr c20
   simp only [Option.some.injEq, Prod.mk.injEq] at H
   obtain ⟨rfl, rfl, rfl⟩ := H
   go_enter Tryd.func81, Tryd.ntmps81
   go_wp2_with (first | ((with_reducible refine gate_callee (f := 77) rfl ?_); refine gl_ (some 8) Tryd.func77 #[.pointer (some ⟨g, 0, none⟩), .int .i64 5] ?_; (with_reducible refine (spec_l00Src_pick.calls g s0_0 s0_1 s0_2 5 t393 t394 t395 w0 _ ?side1 ?side2 A3.out).mono ?_); (case side1 => exact isk112_x15 HI0); (case side2 => exact bwi112_x15); rintro e w33 ⟨rfl, hi, hb, hk⟩; refine ⟨_, rfl, ?_⟩; replace HK := Aside0.mk (KeepBut.trans (kbl_ HK) hk (.inl rfl)); replace HB := Aside0.mk (hb); replace HI0 := Aside0.mk (hi); clear hb hk hi))
   go_ret
   exact ⟨rr_, isk112_x15 HI0, bwi112_x15, kbl_ HK⟩
def spec_DrawReadFrames.f (k : Nat) (l0 : List Int) : Option (ByteArray) := (spec_l00From.f l0).bind fun bt408 => ((spec_l00Src_pick.f bt408.1 bt408.2.1 bt408.2.2 5).bind fun bt412 => ((spec_l27Frames.f k bt408.1 bt412.2.1 bt412.2.2 bt412.1).bind fun bt415 => ((spec_l00Src_pick.f bt408.1 bt415.2.1 bt415.2.2 5).bind fun bt418 => (if bt418.1 = 0 then (if bt415.1.toList = ([] : List UInt8) then (some bt415.1) else ((spec_l00Src_pick.f bt408.1 bt418.2.1 bt418.2.2 (bt415.1.size : Int)).bind fun bt421 => (if 0 ≤ bt421.1 then (if bt421.1 ≤ (bt415.1.size : Int) then (some (bt415.1.extract 0 (bt421.1 : Int).toNat)) else (none)) else (none)))) else (if bt418.1 = 1 then ((spec_l01Spoil.f bt408.1 bt418.2.1 bt418.2.2 bt415.1).bind fun bt424 => (some bt424.1)) else (if bt418.1 = 2 then ((spec_l00Src_text.f bt408.1 bt418.2.1 bt418.2.2 (([(⟨#[57, 58, 53, 32, 115, 97, 105, 108, 32, 97, 98, 35, 48, 10]⟩ : ByteArray), (⟨#[48, 58, 35, 55, 10]⟩ : ByteArray), (⟨#[58]⟩ : ByteArray), (⟨#[48, 55, 58, 49, 32, 97, 32, 98, 35, 49, 10]⟩ : ByteArray), (⟨#[120]⟩ : ByteArray), (⟨#[45, 49, 58]⟩ : ByteArray)] : List ByteArray))).bind fun bt430 => (if bt415.1.size + bt430.1.size ≤ 9223372036854775807 then (some (bt415.1 ++ bt430.1)) else (none))) else (some bt415.1)))))))
theorem spec_DrawReadFrames.mono : ∀ a0 k, LeO (spec_DrawReadFrames.f k a0) (spec_DrawReadFrames.f (k + 1) a0) := by
 intro a0 k
 unfold spec_DrawReadFrames.f
 repeat' first
   | (with_reducible exact spec_l27Frames.mono _ _ _ _ _)
   | (with_reducible exact LeO.refl _)
   | (with_reducible exact LeO.none _)
   | (with_reducible refine LeO.ite ?_ ?_)
   | (with_reducible refine LeO.bind ?_ (fun _ => ?_))
   | exact spec_l27Frames.mono _ _ _ _ _
   | exact LeO.none _
   | refine LeO.ite ?_ ?_
   | refine LeO.bind ?_ (fun _ => ?_)
set_option maxHeartbeats 8000000 in
set_option maxRecDepth 100000 in
theorem spec_DrawReadFrames.calls (k : Nat) (A0 : Option Addr) (c0 : Nat) (l0 : List Int) (r : ByteArray) (w : World) (hr0 : Kd.C (Kd.int .u8) w A0 l0.length l0) (hc0 : l0.length ≤ c0) (h : spec_DrawReadFrames.f k l0 = some r) :
  Calls Tryd.prog 46 #[.slice A0 l0.length c0] w fun e w' => e = .returned (.string r) ∧ Below w.heap.size w w' := by
 have HR0 := Aside0.mk hr0
 have HC0 := Aside0.mk hc0
 clear hr0 hc0
 have HB := Aside0.mk (Below.refl w.heap.size w)
 have H : ((spec_l00From.f l0).bind fun bt408 => ((spec_l00Src_pick.f bt408.1 bt408.2.1 bt408.2.2 5).bind fun bt412 => ((spec_l27Frames.f k bt408.1 bt412.2.1 bt412.2.2 bt412.1).bind fun bt415 => ((spec_l00Src_pick.f bt408.1 bt415.2.1 bt415.2.2 5).bind fun bt418 => (if bt418.1 = 0 then (if bt415.1.toList = ([] : List UInt8) then (some bt415.1) else ((spec_l00Src_pick.f bt408.1 bt418.2.1 bt418.2.2 (bt415.1.size : Int)).bind fun bt421 => (if 0 ≤ bt421.1 then (if bt421.1 ≤ (bt415.1.size : Int) then (some (bt415.1.extract 0 (bt421.1 : Int).toNat)) else (none)) else (none)))) else (if bt418.1 = 1 then ((spec_l01Spoil.f bt408.1 bt418.2.1 bt418.2.2 bt415.1).bind fun bt424 => (some bt424.1)) else (if bt418.1 = 2 then ((spec_l00Src_text.f bt408.1 bt418.2.1 bt418.2.2 (([(⟨#[57, 58, 53, 32, 115, 97, 105, 108, 32, 97, 98, 35, 48, 10]⟩ : ByteArray), (⟨#[48, 58, 35, 55, 10]⟩ : ByteArray), (⟨#[58]⟩ : ByteArray), (⟨#[48, 55, 58, 49, 32, 97, 32, 98, 35, 49, 10]⟩ : ByteArray), (⟨#[120]⟩ : ByteArray), (⟨#[45, 49, 58]⟩ : ByteArray)] : List ByteArray))).bind fun bt430 => (if bt415.1.size + bt430.1.size ≤ 9223372036854775807 then (some (bt415.1 ++ bt430.1)) else (none))) else (some bt415.1)))))))) = some r := h
 clear h
 replace H := Option.bind_eq_some_iff.mp H
 obtain ⟨⟨t408, t409, t410⟩, A20, H⟩ := H
 (try dsimp only at H)
 have A2 := Aside0.mk A20
 clear A20
 replace H := Option.bind_eq_some_iff.mp H
 obtain ⟨⟨t412, t413, t414⟩, A30, H⟩ := H
 (try dsimp only at H)
 have A3 := Aside0.mk A30
 clear A30
 replace H := Option.bind_eq_some_iff.mp H
 obtain ⟨⟨t415, t416, t417⟩, A40, H⟩ := H
 (try dsimp only at H)
 have A4 := Aside0.mk A40
 clear A40
 replace H := Option.bind_eq_some_iff.mp H
 obtain ⟨⟨t418, t419, t420⟩, A50, H⟩ := H
 (try dsimp only at H)
 have A5 := Aside0.mk A50
 clear A50
 by_cases c6 : t418 = 0
 ·rw [if_pos c6] at H
  have c6b0 : (t418 == 0) = true := beq_iff_eq.mpr c6
  have c6b1 : (t418 != 0) = false := bne_eq_false_iff_eq.mpr c6
  clear c6
  by_cases c7 : t415.toList = ([] : List UInt8)
  ·rw [if_pos c7] at H
   have c7b0 : (t415.toList == ([] : List UInt8)) = true := beq_iff_eq.mpr c7
   have c7b1 : (t415.toList != ([] : List UInt8)) = false := bne_eq_false_iff_eq.mpr c7
   clear c7
   obtain rfl := Option.some.inj H
   go_enter Tryd.func46, Tryd.ntmps46
   go_wp2_with (first | ((with_reducible refine gate_callee (f := 73) rfl ?_); refine gl_ (some 6) Tryd.func73 #[.slice A0 l0.length c0] ?_; (with_reducible refine (spec_l00From.calls _ _ l0 t408 t409 t410 w _ ?side1 ?side2 ?side3 A2.out).mono ?_); (case side1 => exact bwl_); (case side2 => exact HR0.out); (case side3 => exact HC0.out); rintro e w8 ⟨g411, rfl, hi, hb, hb2⟩; refine ⟨_, rfl, ?_⟩; replace HB := Aside0.mk (hb); have HI411 := Aside0.mk (hi); clear hb hb2 hi) | ((with_reducible refine gate_callee (f := 77) rfl ?_); refine gl_ (some 9) Tryd.func77 #[.pointer (some ⟨g411, 0, none⟩), .int .i64 5] ?_; (with_reducible refine (spec_l00Src_pick.calls g411 t408 t409 t410 5 t412 t413 t414 w _ ?side1 ?side2 A3.out).mono ?_); (case side1 => exact isk112_x15 HI411); (case side2 => exact bwi112_x15); rintro e w9 ⟨rfl, hi, hb, hk⟩; refine ⟨_, rfl, ?_⟩; replace HB := Aside0.mk (hb); replace HI411 := Aside0.mk (hi); clear hb hk hi) | ((with_reducible refine gate_callee (f := 80) rfl ?_); refine gl_ (some 10) Tryd.func80 #[.pointer (some ⟨g411, 0, none⟩), .int .i64 t412] ?_; (with_reducible refine (spec_l27Frames.calls k g411 t408 t413 t414 t412 t415 t416 t417 w _ ?side1 ?side2 A4.out).mono ?_); (case side1 => exact isk112_x15 HI411); (case side2 => exact bwi112_x15); rintro e w10 ⟨rfl, hi, hb, hk⟩; refine ⟨_, rfl, ?_⟩; replace HB := Aside0.mk (hb); replace HI411 := Aside0.mk (hi); clear hb hk hi) | ((with_reducible refine gate_callee (f := 77) rfl ?_); refine gl_ (some 12) Tryd.func77 #[.pointer (some ⟨g411, 0, none⟩), .int .i64 5] ?_; (with_reducible refine (spec_l00Src_pick.calls g411 t408 t416 t417 5 t418 t419 t420 w _ ?side1 ?side2 A5.out).mono ?_); (case side1 => exact isk112_x15 HI411); (case side2 => exact bwi112_x15); rintro e w11 ⟨rfl, hi, hb, hk⟩; refine ⟨_, rfl, ?_⟩; replace HB := Aside0.mk (hb); replace HI411 := Aside0.mk (hi); clear hb hk hi))
   go_ret
   exact ⟨rr_, bwi112_x15⟩
  ·rw [if_neg c7] at H
   have c7b0 : (t415.toList == ([] : List UInt8)) = false := beq_eq_false_iff_ne.mpr c7
   have c7b1 : (t415.toList != ([] : List UInt8)) = true := bne_iff_ne.mpr c7
   replace H := Option.bind_eq_some_iff.mp H
   obtain ⟨⟨t421, t422, t423⟩, A120, H⟩ := H
   (try dsimp only at H)
   have A12 := Aside0.mk A120
   clear A120
   by_cases c13 : 0 ≤ t421
   ·rw [if_pos c13] at H
    have c13b0 := eq_true c13
    have c13b1 : decide (0 ≤ t421) = true := decide_eq_true c13
    clear c13
    by_cases c14 : t421 ≤ (t415.size : Int)
    ·rw [if_pos c14] at H
     have c14b0 := eq_true c14
     have c14b1 : decide (t421 ≤ (t415.size : Int)) = true := decide_eq_true c14
     clear c14
     obtain rfl := Option.some.inj H
     go_enter Tryd.func46, Tryd.ntmps46
     go_wp2_with (first | ((with_reducible refine gate_callee (f := 73) rfl ?_); refine gl_ (some 6) Tryd.func73 #[.slice A0 l0.length c0] ?_; (with_reducible refine (spec_l00From.calls _ _ l0 t408 t409 t410 w _ ?side1 ?side2 ?side3 A2.out).mono ?_); (case side1 => exact bwl_); (case side2 => exact HR0.out); (case side3 => exact HC0.out); rintro e w15 ⟨g411, rfl, hi, hb, hb2⟩; refine ⟨_, rfl, ?_⟩; replace HB := Aside0.mk (hb); have HI411 := Aside0.mk (hi); clear hb hb2 hi) | ((with_reducible refine gate_callee (f := 77) rfl ?_); refine gl_ (some 9) Tryd.func77 #[.pointer (some ⟨g411, 0, none⟩), .int .i64 5] ?_; (with_reducible refine (spec_l00Src_pick.calls g411 t408 t409 t410 5 t412 t413 t414 w _ ?side1 ?side2 A3.out).mono ?_); (case side1 => exact isk112_x15 HI411); (case side2 => exact bwi112_x15); rintro e w16 ⟨rfl, hi, hb, hk⟩; refine ⟨_, rfl, ?_⟩; replace HB := Aside0.mk (hb); replace HI411 := Aside0.mk (hi); clear hb hk hi) | ((with_reducible refine gate_callee (f := 80) rfl ?_); refine gl_ (some 10) Tryd.func80 #[.pointer (some ⟨g411, 0, none⟩), .int .i64 t412] ?_; (with_reducible refine (spec_l27Frames.calls k g411 t408 t413 t414 t412 t415 t416 t417 w _ ?side1 ?side2 A4.out).mono ?_); (case side1 => exact isk112_x15 HI411); (case side2 => exact bwi112_x15); rintro e w17 ⟨rfl, hi, hb, hk⟩; refine ⟨_, rfl, ?_⟩; replace HB := Aside0.mk (hb); replace HI411 := Aside0.mk (hi); clear hb hk hi) | ((with_reducible refine gate_callee (f := 77) rfl ?_); refine gl_ (some 12) Tryd.func77 #[.pointer (some ⟨g411, 0, none⟩), .int .i64 5] ?_; (with_reducible refine (spec_l00Src_pick.calls g411 t408 t416 t417 5 t418 t419 t420 w _ ?side1 ?side2 A5.out).mono ?_); (case side1 => exact isk112_x15 HI411); (case side2 => exact bwi112_x15); rintro e w18 ⟨rfl, hi, hb, hk⟩; refine ⟨_, rfl, ?_⟩; replace HB := Aside0.mk (hb); replace HI411 := Aside0.mk (hi); clear hb hk hi) | ((with_reducible refine gate_callee (f := 77) rfl ?_); refine gl_ (some 21) Tryd.func77 #[.pointer (some ⟨g411, 0, none⟩), .int .i64 (t415.size : Int)] ?_; (with_reducible refine (spec_l00Src_pick.calls g411 t408 t419 t420 (t415.size : Int) t421 t422 t423 w _ ?side1 ?side2 A12.out).mono ?_); (case side1 => exact isk112_x15 HI411); (case side2 => exact bwi112_x15); rintro e w19 ⟨rfl, hi, hb, hk⟩; refine ⟨_, rfl, ?_⟩; replace HB := Aside0.mk (hb); replace HI411 := Aside0.mk (hi); clear hb hk hi))
     go_ret
     exact ⟨rr_, bwi112_x15⟩
    ·rw [if_neg c14] at H
     exact absurd H (by simp)
   ·rw [if_neg c13] at H
    exact absurd H (by simp)
 ·rw [if_neg c6] at H
  have c6b0 : (t418 == 0) = false := beq_eq_false_iff_ne.mpr c6
  have c6b1 : (t418 != 0) = true := bne_iff_ne.mpr c6
  by_cases c20 : t418 = 1
  ·rw [if_pos c20] at H
   have c20b0 : (t418 == 1) = true := beq_iff_eq.mpr c20
   have c20b1 : (t418 != 1) = false := bne_eq_false_iff_eq.mpr c20
   clear c20
   replace H := Option.bind_eq_some_iff.mp H
   obtain ⟨⟨t424, t425, t426⟩, A210, H⟩ := H
   (try dsimp only at H)
   have A21 := Aside0.mk A210
   clear A210
   obtain rfl := Option.some.inj H
   go_enter Tryd.func46, Tryd.ntmps46
   go_wp2_with (first | ((with_reducible refine gate_callee (f := 73) rfl ?_); refine gl_ (some 6) Tryd.func73 #[.slice A0 l0.length c0] ?_; (with_reducible refine (spec_l00From.calls _ _ l0 t408 t409 t410 w _ ?side1 ?side2 ?side3 A2.out).mono ?_); (case side1 => exact bwl_); (case side2 => exact HR0.out); (case side3 => exact HC0.out); rintro e w22 ⟨g411, rfl, hi, hb, hb2⟩; refine ⟨_, rfl, ?_⟩; replace HB := Aside0.mk (hb); have HI411 := Aside0.mk (hi); clear hb hb2 hi) | ((with_reducible refine gate_callee (f := 77) rfl ?_); refine gl_ (some 9) Tryd.func77 #[.pointer (some ⟨g411, 0, none⟩), .int .i64 5] ?_; (with_reducible refine (spec_l00Src_pick.calls g411 t408 t409 t410 5 t412 t413 t414 w _ ?side1 ?side2 A3.out).mono ?_); (case side1 => exact isk112_x15 HI411); (case side2 => exact bwi112_x15); rintro e w23 ⟨rfl, hi, hb, hk⟩; refine ⟨_, rfl, ?_⟩; replace HB := Aside0.mk (hb); replace HI411 := Aside0.mk (hi); clear hb hk hi) | ((with_reducible refine gate_callee (f := 80) rfl ?_); refine gl_ (some 10) Tryd.func80 #[.pointer (some ⟨g411, 0, none⟩), .int .i64 t412] ?_; (with_reducible refine (spec_l27Frames.calls k g411 t408 t413 t414 t412 t415 t416 t417 w _ ?side1 ?side2 A4.out).mono ?_); (case side1 => exact isk112_x15 HI411); (case side2 => exact bwi112_x15); rintro e w24 ⟨rfl, hi, hb, hk⟩; refine ⟨_, rfl, ?_⟩; replace HB := Aside0.mk (hb); replace HI411 := Aside0.mk (hi); clear hb hk hi) | ((with_reducible refine gate_callee (f := 77) rfl ?_); refine gl_ (some 12) Tryd.func77 #[.pointer (some ⟨g411, 0, none⟩), .int .i64 5] ?_; (with_reducible refine (spec_l00Src_pick.calls g411 t408 t416 t417 5 t418 t419 t420 w _ ?side1 ?side2 A5.out).mono ?_); (case side1 => exact isk112_x15 HI411); (case side2 => exact bwi112_x15); rintro e w25 ⟨rfl, hi, hb, hk⟩; refine ⟨_, rfl, ?_⟩; replace HB := Aside0.mk (hb); replace HI411 := Aside0.mk (hi); clear hb hk hi) | ((with_reducible refine gate_callee (f := 81) rfl ?_); refine gl_ (some 27) Tryd.func81 #[.pointer (some ⟨g411, 0, none⟩), .string t415] ?_; (with_reducible refine (spec_l01Spoil.calls g411 t408 t419 t420 t415 t424 t425 t426 w _ ?side1 ?side2 A21.out).mono ?_); (case side1 => exact isk112_x15 HI411); (case side2 => exact bwi112_x15); rintro e w26 ⟨rfl, hi, hb, hk⟩; refine ⟨_, rfl, ?_⟩; replace HB := Aside0.mk (hb); replace HI411 := Aside0.mk (hi); clear hb hk hi))
   go_ret
   exact ⟨rr_, bwi112_x15⟩
  ·rw [if_neg c20] at H
   have c20b0 : (t418 == 1) = false := beq_eq_false_iff_ne.mpr c20
   have c20b1 : (t418 != 1) = true := bne_iff_ne.mpr c20
   by_cases c27 : t418 = 2
   ·rw [if_pos c27] at H
    have c27b0 : (t418 == 2) = true := beq_iff_eq.mpr c27
    have c27b1 : (t418 != 2) = false := bne_eq_false_iff_eq.mpr c27
    clear c27
    obtain ⟨y427, hy427⟩ : ∃ y_ : List ByteArray, y_ = (([(⟨#[57, 58, 53, 32, 115, 97, 105, 108, 32, 97, 98, 35, 48, 10]⟩ : ByteArray), (⟨#[48, 58, 35, 55, 10]⟩ : ByteArray), (⟨#[58]⟩ : ByteArray), (⟨#[48, 55, 58, 49, 32, 97, 32, 98, 35, 49, 10]⟩ : ByteArray), (⟨#[120]⟩ : ByteArray), (⟨#[45, 49, 58]⟩ : ByteArray)] : List ByteArray)) := ⟨_, rfl⟩
    replace H : ((spec_l00Src_text.f t408 t419 t420 y427).bind fun bt430 => (if t415.size + bt430.1.size ≤ 9223372036854775807 then (some (t415 ++ bt430.1)) else (none))) = some r := by first | (rw [hy427]; with_reducible exact H) | (have H2_ := (Option.bind_some _ _).symm.trans H; rw [hy427]; with_reducible exact H2_) | (have H2_ := (Option.bind_some _ _).symm.trans H; with_reducible exact H2_) | with_reducible exact H | (rw [hy427]; exact H) | exact H
    have Ny427 := Aside0.mk hy427
    clear hy427
    replace H := Option.bind_eq_some_iff.mp H
    obtain ⟨⟨t430, t431, t432⟩, A280, H⟩ := H
    (try dsimp only at H)
    have A28 := Aside0.mk A280
    clear A280
    by_cases c29 : t415.size + t430.size ≤ 9223372036854775807
    ·rw [if_pos c29] at H
     have c29b0 := eq_true c29
     have c29b1 : decide (t415.size + t430.size ≤ 9223372036854775807) = true := decide_eq_true c29
     try have c29b2 : (9223372036854775807 < t415.size + t430.size) = False := eq_false (Nat.not_lt.2 c29)
     obtain rfl := Option.some.inj H
     go_enter Tryd.func46, Tryd.ntmps46
     go_wp2_with (first | ((with_reducible refine gate_callee (f := 73) rfl ?_); refine gl_ (some 6) Tryd.func73 #[.slice A0 l0.length c0] ?_; (with_reducible refine (spec_l00From.calls _ _ l0 t408 t409 t410 w _ ?side1 ?side2 ?side3 A2.out).mono ?_); (case side1 => exact bwl_); (case side2 => exact HR0.out); (case side3 => exact HC0.out); rintro e w30 ⟨g411, rfl, hi, hb, hb2⟩; refine ⟨_, rfl, ?_⟩; replace HB := Aside0.mk (hb); have HI411 := Aside0.mk (hi); clear hb hb2 hi) | ((with_reducible refine gate_callee (f := 77) rfl ?_); refine gl_ (some 9) Tryd.func77 #[.pointer (some ⟨g411, 0, none⟩), .int .i64 5] ?_; (with_reducible refine (spec_l00Src_pick.calls g411 t408 t409 t410 5 t412 t413 t414 w _ ?side1 ?side2 A3.out).mono ?_); (case side1 => exact isk112_x15 HI411); (case side2 => exact bwi112_x15); rintro e w31 ⟨rfl, hi, hb, hk⟩; refine ⟨_, rfl, ?_⟩; replace HB := Aside0.mk (hb); replace HI411 := Aside0.mk (hi); clear hb hk hi) | ((with_reducible refine gate_callee (f := 80) rfl ?_); refine gl_ (some 10) Tryd.func80 #[.pointer (some ⟨g411, 0, none⟩), .int .i64 t412] ?_; (with_reducible refine (spec_l27Frames.calls k g411 t408 t413 t414 t412 t415 t416 t417 w _ ?side1 ?side2 A4.out).mono ?_); (case side1 => exact isk112_x15 HI411); (case side2 => exact bwi112_x15); rintro e w32 ⟨rfl, hi, hb, hk⟩; refine ⟨_, rfl, ?_⟩; replace HB := Aside0.mk (hb); replace HI411 := Aside0.mk (hi); clear hb hk hi) | ((with_reducible refine gate_callee (f := 77) rfl ?_); refine gl_ (some 12) Tryd.func77 #[.pointer (some ⟨g411, 0, none⟩), .int .i64 5] ?_; (with_reducible refine (spec_l00Src_pick.calls g411 t408 t416 t417 5 t418 t419 t420 w _ ?side1 ?side2 A5.out).mono ?_); (case side1 => exact isk112_x15 HI411); (case side2 => exact bwi112_x15); rintro e w33 ⟨rfl, hi, hb, hk⟩; refine ⟨_, rfl, ?_⟩; replace HB := Aside0.mk (hb); replace HI411 := Aside0.mk (hi); clear hb hk hi) | ((with_reducible refine gate_dst (N := 32) rfl ?_); refine Kd.R_lit Kd.string _ 9 ?hg (N := 32) ?hd (xs := ([(⟨#[57, 58, 53, 32, 115, 97, 105, 108, 32, 97, 98, 35, 48, 10]⟩ : ByteArray), (⟨#[48, 58, 35, 55, 10]⟩ : ByteArray), (⟨#[58]⟩ : ByteArray), (⟨#[48, 55, 58, 49, 32, 97, 32, 98, 35, 49, 10]⟩ : ByteArray), (⟨#[120]⟩ : ByteArray), (⟨#[45, 49, 58]⟩ : ByteArray)] : List ByteArray)) (inner := [.string (⟨#[57, 58, 53, 32, 115, 97, 105, 108, 32, 97, 98, 35, 48, 10]⟩ : ByteArray), .string (⟨#[48, 58, 35, 55, 10]⟩ : ByteArray), .string (⟨#[58]⟩ : ByteArray), .string (⟨#[48, 55, 58, 49, 32, 97, 32, 98, 35, 49, 10]⟩ : ByteArray), .string (⟨#[120]⟩ : ByteArray), .string (⟨#[45, 49, 58]⟩ : ByteArray)]) (ok := fun _ => True) (okp := fun _ => True) ?hr ?hp (fun _ hk => hk) trivial (Below.refl _ _) (Nat.le_refl _) (by simp) ?_; (case hd => rfl); (case hg => rfl); (case hr => first | (go_simp; done) | (go_simp; rfl)); (case hp => exact (Reps.one (show Kd.M Kd.string _ _ _ (⟨#[57, 58, 53, 32, 115, 97, 105, 108, 32, 97, 98, 35, 48, 10]⟩ : ByteArray) [.string (⟨#[57, 58, 53, 32, 115, 97, 105, 108, 32, 97, 98, 35, 48, 10]⟩ : ByteArray)] from rfl) (Reps.one (show Kd.M Kd.string _ _ _ (⟨#[48, 58, 35, 55, 10]⟩ : ByteArray) [.string (⟨#[48, 58, 35, 55, 10]⟩ : ByteArray)] from rfl) (Reps.one (show Kd.M Kd.string _ _ _ (⟨#[58]⟩ : ByteArray) [.string (⟨#[58]⟩ : ByteArray)] from rfl) (Reps.one (show Kd.M Kd.string _ _ _ (⟨#[48, 55, 58, 49, 32, 97, 32, 98, 35, 49, 10]⟩ : ByteArray) [.string (⟨#[48, 55, 58, 49, 32, 97, 32, 98, 35, 49, 10]⟩ : ByteArray)] from rfl) (Reps.one (show Kd.M Kd.string _ _ _ (⟨#[120]⟩ : ByteArray) [.string (⟨#[120]⟩ : ByteArray)] from rfl) (Reps.one (show Kd.M Kd.string _ _ _ (⟨#[45, 49, 58]⟩ : ByteArray) [.string (⟨#[45, 49, 58]⟩ : ByteArray)] from rfl) (Reps.none _ _)))))))); intro v428 w34 ho35 hb hg_ hnew_; clear hg_ hnew_; (first | rw [← Ny427.out] at ho35 | (simp only [Int.reduceToNat] at ho35; rw [← Ny427.out] at ho35)); have HO429 := Aside0.mk (Kd.R_lower ho35 (below_size bwi112_x15)); replace HB := Aside0.mk (below_step bwi112_x15 hb); replace HI411 := Aside0.mk (IsS112.below (isk112_x15 HI411) hb); clear hb ho35; obtain ⟨Ao36, co36, eo36⟩ := Kd.R_slice HO429.out; subst eo36) | ((with_reducible refine gate_callee (f := 82) rfl ?_); refine gl_ (some 33) Tryd.func82 #[.pointer (some ⟨g411, 0, none⟩), .slice Ao36 y427.length co36] ?_; (with_reducible refine (spec_l00Src_text.calls g411 t408 t419 t420 _ _ y427 t430 t431 t432 w _ ?side1 ?side2 ?side3 ?side4 ?side5 A28.out).mono ?_); (case side1 => exact isk112_x15 HI411); (case side2 => exact bwi112_x15); (case side3 => repeat (first | exact (Kd.R_reads' HO429.out).2.2 | (with_reducible refine Kd.C_alloc ?_ _) | (with_reducible refine Kd.C_drewN ?_ _) | (with_reducible refine Kd.C_drew ?_))); (case side4 => exact (Kd.R_reads' HO429.out).2.1); (case side5 => exact far_slice (IsS112.own_ne HI411.out HO429.out (by decide))); rintro e w37 ⟨rfl, hi, hb, hk⟩; refine ⟨_, rfl, ?_⟩; replace HO429 := Aside0.mk (Kd.R_mono (Kd.R_keep (IsS112.apart (show IsS112 w _ g411 t408 t419 t420 from by repeat (first | (with_reducible first | exact HI411.out | apply IsS112.alloc | apply IsS112.drewN | apply IsS112.drew | apply IsS112.set_1 | apply IsS112.set_2) | exact HI411.out)) (by (with_reducible repeat (first | apply Kd.R_alloc | apply Kd.R_drewN | apply Kd.R_drew)); exact HO429.out) (by decide)) hk (fun _ h => h.2)) (fun _ h => h.1)); replace HB := Aside0.mk (hb); replace HI411 := Aside0.mk (hi); clear hb hk hi))
     go_ret
     exact ⟨rr_, bwi112_x15⟩
    ·rw [if_neg c29] at H
     exact absurd H (by simp)
   ·rw [if_neg c27] at H
    have c27b0 : (t418 == 2) = false := beq_eq_false_iff_ne.mpr c27
    have c27b1 : (t418 != 2) = true := bne_iff_ne.mpr c27
    obtain rfl := Option.some.inj H
    go_enter Tryd.func46, Tryd.ntmps46
    go_wp2_with (first | ((with_reducible refine gate_callee (f := 73) rfl ?_); refine gl_ (some 6) Tryd.func73 #[.slice A0 l0.length c0] ?_; (with_reducible refine (spec_l00From.calls _ _ l0 t408 t409 t410 w _ ?side1 ?side2 ?side3 A2.out).mono ?_); (case side1 => exact bwl_); (case side2 => exact HR0.out); (case side3 => exact HC0.out); rintro e w38 ⟨g411, rfl, hi, hb, hb2⟩; refine ⟨_, rfl, ?_⟩; replace HB := Aside0.mk (hb); have HI411 := Aside0.mk (hi); clear hb hb2 hi) | ((with_reducible refine gate_callee (f := 77) rfl ?_); refine gl_ (some 9) Tryd.func77 #[.pointer (some ⟨g411, 0, none⟩), .int .i64 5] ?_; (with_reducible refine (spec_l00Src_pick.calls g411 t408 t409 t410 5 t412 t413 t414 w _ ?side1 ?side2 A3.out).mono ?_); (case side1 => exact isk112_x15 HI411); (case side2 => exact bwi112_x15); rintro e w39 ⟨rfl, hi, hb, hk⟩; refine ⟨_, rfl, ?_⟩; replace HB := Aside0.mk (hb); replace HI411 := Aside0.mk (hi); clear hb hk hi) | ((with_reducible refine gate_callee (f := 80) rfl ?_); refine gl_ (some 10) Tryd.func80 #[.pointer (some ⟨g411, 0, none⟩), .int .i64 t412] ?_; (with_reducible refine (spec_l27Frames.calls k g411 t408 t413 t414 t412 t415 t416 t417 w _ ?side1 ?side2 A4.out).mono ?_); (case side1 => exact isk112_x15 HI411); (case side2 => exact bwi112_x15); rintro e w40 ⟨rfl, hi, hb, hk⟩; refine ⟨_, rfl, ?_⟩; replace HB := Aside0.mk (hb); replace HI411 := Aside0.mk (hi); clear hb hk hi) | ((with_reducible refine gate_callee (f := 77) rfl ?_); refine gl_ (some 12) Tryd.func77 #[.pointer (some ⟨g411, 0, none⟩), .int .i64 5] ?_; (with_reducible refine (spec_l00Src_pick.calls g411 t408 t416 t417 5 t418 t419 t420 w _ ?side1 ?side2 A5.out).mono ?_); (case side1 => exact isk112_x15 HI411); (case side2 => exact bwi112_x15); rintro e w41 ⟨rfl, hi, hb, hk⟩; refine ⟨_, rfl, ?_⟩; replace HB := Aside0.mk (hb); replace HI411 := Aside0.mk (hi); clear hb hk hi))
    go_ret
    exact ⟨rr_, bwi112_x15⟩
def spec_DrawEntriesOf.f (k : Nat) (l0 : List Int) : Option (ByteArray × ByteArray) := (spec_l00From.f l0).bind fun bt434 => ((spec_l27Draw.f k bt434.1 bt434.2.1 bt434.2.2).bind fun bt438 => (some (bt438.1, bt438.2.1)))
theorem spec_DrawEntriesOf.mono : ∀ a0 k, LeO (spec_DrawEntriesOf.f k a0) (spec_DrawEntriesOf.f (k + 1) a0) := by
 intro a0 k
 unfold spec_DrawEntriesOf.f
 repeat' first
   | (with_reducible exact spec_l27Draw.mono _ _ _ _)
   | (with_reducible exact LeO.refl _)
   | (with_reducible exact LeO.none _)
   | (with_reducible refine LeO.ite ?_ ?_)
   | (with_reducible refine LeO.bind ?_ (fun _ => ?_))
   | exact spec_l27Draw.mono _ _ _ _
   | exact LeO.none _
   | refine LeO.ite ?_ ?_
   | refine LeO.bind ?_ (fun _ => ?_)
set_option maxHeartbeats 8000000 in
set_option maxRecDepth 100000 in
theorem spec_DrawEntriesOf.calls (k : Nat) (A0 : Option Addr) (c0 : Nat) (l0 : List Int) (r1 : ByteArray) (r2 : ByteArray) (w : World) (hr0 : Kd.C (Kd.int .u8) w A0 l0.length l0) (hc0 : l0.length ≤ c0) (h : spec_DrawEntriesOf.f k l0 = some (r1, r2)) :
  Calls Tryd.prog 47 #[.slice A0 l0.length c0] w fun e w' => e = .returned (.agg #[.string r1, .string r2]) ∧ Below w.heap.size w w' := by
 have hu32 := Tryd.underlying32
 have HR0 := Aside0.mk hr0
 have HC0 := Aside0.mk hc0
 clear hr0 hc0
 have HB := Aside0.mk (Below.refl w.heap.size w)
 have H : ((spec_l00From.f l0).bind fun bt434 => ((spec_l27Draw.f k bt434.1 bt434.2.1 bt434.2.2).bind fun bt438 => (some (bt438.1, bt438.2.1)))) = some (r1, r2) := h
 clear h
 replace H := Option.bind_eq_some_iff.mp H
 obtain ⟨⟨t434, t435, t436⟩, A20, H⟩ := H
 (try dsimp only at H)
 have A2 := Aside0.mk A20
 clear A20
 replace H := Option.bind_eq_some_iff.mp H
 obtain ⟨⟨t438, t439, t440, t441⟩, A30, H⟩ := H
 (try dsimp only at H)
 have A3 := Aside0.mk A30
 clear A30
 simp only [Option.some.injEq, Prod.mk.injEq] at H
 obtain ⟨rfl, rfl⟩ := H
 go_enter Tryd.func47, Tryd.ntmps47
 go_wp2_with (first | ((with_reducible refine gate_dst (N := 2) rfl ?_); refine be_ 2 #[.string (⟨#[]⟩ : ByteArray), .string (⟨#[]⟩ : ByteArray)] 32 ?_; intro gb433 hg w4 hbox hb; have BK433 := Aside0.mk (hbox); have GW433 := bsz_ hg; have GE433 := bsz_ hg; replace HB := bst_ hb; clear hb hbox hg) | ((with_reducible refine gate_callee (f := 73) rfl ?_); refine gl_ (some 4) Tryd.func73 #[.slice A0 l0.length c0] ?_; (with_reducible refine (spec_l00From.calls _ _ l0 t434 t435 t436 w _ ?side1 ?side2 ?side3 A2.out).mono ?_); (case side1 => exact bwl_); (case side2 => exact HR0.out); (case side3 => exact HC0.out); rintro e w5 ⟨g437, rfl, hi, hb, hb2⟩; refine ⟨_, rfl, ?_⟩; replace HB := Aside0.mk (hb); have HI437 := Aside0.mk (hi); have NB437_433 := Aside0.mk (IsS112.ne_blk hi (blk_below (g := gb433) (o := .cells #[.string (⟨#[]⟩ : ByteArray), .string (⟨#[]⟩ : ByteArray)] 32 (0, 0)) (by (with_reducible repeat (first | refine blk_drewN ?_ _ | refine blk_drew ?_ | refine blk_alloc ?_ _)); exact BK433.out) hb2) (by decide)); have NB433_437 := Aside0.mk (Ne.symm (IsS112.ne_blk hi (blk_below (g := gb433) (o := .cells #[.string (⟨#[]⟩ : ByteArray), .string (⟨#[]⟩ : ByteArray)] 32 (0, 0)) (by (with_reducible repeat (first | refine blk_drewN ?_ _ | refine blk_drew ?_ | refine blk_alloc ?_ _)); exact BK433.out) hb2) (by decide))); replace BK433 := bkb_ BK433 hb2; clear hb hb2 hi) | ((with_reducible refine gate_callee (f := 74) rfl ?_); refine gl_ (some 5) Tryd.func74 #[.pointer (some ⟨g437, 0, none⟩)] ?_; (with_reducible refine (spec_l27Draw.calls k g437 t434 t435 t436 t438 t439 t440 t441 w _ ?side1 ?side2 A3.out).mono ?_); (case side1 => exact isk112_x15 HI437); (case side2 => exact bwi112_x15); rintro e w6 ⟨rfl, hi, hb, hk⟩; refine ⟨_, rfl, ?_⟩; replace BK433 := Aside0.mk (KeepBut.blk hk (g' := gb433) (o := .cells #[.string (⟨#[]⟩ : ByteArray), .string (⟨#[]⟩ : ByteArray)] 32 (0, 0)) (by (with_reducible repeat (first | refine blk_drewN ?_ _ | refine blk_drew ?_ | refine blk_alloc ?_ _)); exact BK433.out) NB433_437.out (by simp)); replace HB := Aside0.mk (hb); replace HI437 := Aside0.mk (hi); clear hb hk hi; have hnb7 := NB433_437.out; have hnc7 := NB437_433.out; have hcz8_0 := b20_ BK433; have hcz8_1 := b21_ BK433; have hfz8_0 := blk_frozen BK433.out 0; have hfz8_1 := blk_frozen BK433.out 1))
 refine bodyPost_ret (results_cell_row rfl _ _ gb433 32 #[.string t438, .string t439] (0, 0) _ rfl (by (with_reducible repeat (first | refine blk_drewN ?_ _ | refine blk_drew ?_ | refine blk_alloc ?_ _)); refine blk_put (cs := #[.string t438, .string (⟨#[]⟩ : ByteArray)]) ?_ 1 _ rfl; (with_reducible repeat (first | refine blk_drewN ?_ _ | refine blk_drew ?_ | refine blk_alloc ?_ _)); refine blk_put (cs := #[.string (⟨#[]⟩ : ByteArray), .string (⟨#[]⟩ : ByteArray)]) ?_ 0 _ rfl; (with_reducible repeat (first | refine blk_drewN ?_ _ | refine blk_drew ?_ | refine blk_alloc ?_ _)); exact BK433.out) Tryd.underlying32 rfl (by kernel_rfl)) rfl ?_
 exact ⟨rr_, bwi112_x15⟩
end Go.Proofs.YtlcgonaapmmnkaaDoor.QFnLogs
