import Derived.Test.YtihiodhlmnhfdaaDoorQFnExactNewDeskx0
import Derived.Test.YtihiodhlmnhfdaaDoorQFnExactNewDeskx5
import Derived.Test.YtihiodhlmnhfdaaDoorQFnExactNewDeskx7
import Derived.Test.YtihiodhlmnhfdaaDoorQFnExactNewDeskx9
import Derived.Test.YtihiodhlmnhfdaaDoorQFnExactNewDeskx10
import Derived.Test.YtihiodhlmnhfdaaDoorQFnExactNewDeskx14
namespace Go.Proofs.YtihiodhlmnhfdaaDoor.QFnExactNewDesk
open Base (bwl_ bst_ bsz_ bkb_ nbl_ nbr_ kbl_ bkm_)
open Go.RowKit Go.Proofs.YtihiodhlmnhfdaaDoorW.PrintWords Go.Proofs.YtihiodhlmnhfdaaDoorW.PrintLast Go.Proofs.YtihiodhlmnhfdaaDoorW.PrintMore
attribute [local go_sem] max2_int min2_int max_two min_two max_three min_three max_four min_four
set_option linter.unusedVariables false
set_option linter.unusedSimpArgs false
mutual
def laws_FnExactNewDesk.j0 : Nat → ByteArray → Int → Bool → Int → List (S68) → List ByteArray → List (S71) → List (S59) → ByteArray → ByteArray → Int → List (S68) → List ByteArray → List (S71) → List (S59) → ByteArray → ByteArray → Option (Bool)
  | 0, _, _, _, _, _, _, _, _, _, _, _, _, _, _, _, _, _ => none
  | k + 1, x0, x4, x32, x338000, x338001, x338002, x338003, x338004, x338005, x338006, x355000, x355001, x355002, x355003, x355004, x355005, x355006 => if x32 = true then (none) else ((laws_markDesk.f k x355000 x355001 x355002 x355003 x355004 x355005 x355006 1).bind fun bt356 => ((laws_heldDesk.f k x355000 bt356.2.1 bt356.2.2.1 bt356.2.2.2.1 bt356.2.2.2.2 x355005 x355006 1).bind fun t361 => (if t361 < 0 then (none) else (if t361 = bt356.1 then ((impl_NewDesk.f x0).bind fun bt362 => ((laws_eqDesk.f k bt362.1 bt362.2.1 bt362.2.2.1 bt362.2.2.2.1 bt362.2.2.2.2.1 bt362.2.2.2.2.2.1 bt362.2.2.2.2.2.2.1 x338000 x338001 x338002 x338003 x338004 x338005 x338006).bind fun t379 => (if t379 = true then (laws_FnExactNewDesk.j1 k bt356.1 (bt362.2.2.2.2.2.2.2 != x4) x355000 bt356.2.1 bt356.2.2.1 bt356.2.2.2.1 bt356.2.2.2.2 x355005 x355006) else (none)))) else (none)))))
def laws_FnExactNewDesk.j1 : Nat → Int → Bool → Int → List (S68) → List ByteArray → List (S71) → List (S59) → ByteArray → ByteArray → Option (Bool)
  | 0, _, _, _, _, _, _, _, _, _ => none
  | k + 1, x7, x57, x355000, x355001, x355002, x355003, x355004, x355005, x355006 => if x57 = true then (none) else ((laws_heldDesk.f k x355000 x355001 x355002 x355003 x355004 x355005 x355006 1).bind fun t380 => (if t380 < 0 then (none) else (if t380 = x7 then (some true) else (none))))
end
def laws_FnExactNewDesk.f (k : Nat) (a0 : ByteArray) : Option (Bool) := if (a0.size : Int) > 1048576 then (some true) else ((spec_NewDesk.f a0).bind fun bt321 => ((impl_NewDesk.f a0).bind fun bt338 => ((laws_eqDesk.f k bt338.1 bt338.2.1 bt338.2.2.1 bt338.2.2.2.1 bt338.2.2.2.2.1 bt338.2.2.2.2.2.1 bt338.2.2.2.2.2.2.1 bt321.1 bt321.2.1 bt321.2.2.1 bt321.2.2.2.1 bt321.2.2.2.2.1 bt321.2.2.2.2.2.1 bt321.2.2.2.2.2.2.1).bind fun t355 => (if t355 = true then (laws_FnExactNewDesk.j0 k a0 bt321.2.2.2.2.2.2.2 (bt338.2.2.2.2.2.2.2 != bt321.2.2.2.2.2.2.2) bt321.1 bt321.2.1 bt321.2.2.1 bt321.2.2.2.1 bt321.2.2.2.2.1 bt321.2.2.2.2.2.1 bt321.2.2.2.2.2.2.1 bt338.1 bt338.2.1 bt338.2.2.1 bt338.2.2.2.1 bt338.2.2.2.2.1 bt338.2.2.2.2.2.1 bt338.2.2.2.2.2.2.1) else (none)))))
theorem laws_FnExactNewDesk.mono_l : ∀ k, (∀ y0 y1 y2 y3 y4 y5 y6 y7 y8 y9 y10 y11 y12 y13 y14 y15 y16, LeO (laws_FnExactNewDesk.j0 k y0 y1 y2 y3 y4 y5 y6 y7 y8 y9 y10 y11 y12 y13 y14 y15 y16) (laws_FnExactNewDesk.j0 (k + 1) y0 y1 y2 y3 y4 y5 y6 y7 y8 y9 y10 y11 y12 y13 y14 y15 y16)) ∧ (∀ y0 y1 y2 y3 y4 y5 y6 y7 y8, LeO (laws_FnExactNewDesk.j1 k y0 y1 y2 y3 y4 y5 y6 y7 y8) (laws_FnExactNewDesk.j1 (k + 1) y0 y1 y2 y3 y4 y5 y6 y7 y8))
  | 0 => ⟨fun _ _ _ _ _ _ _ _ _ _ _ _ _ _ _ _ _ r h => by simp [laws_FnExactNewDesk.j0] at h, fun _ _ _ _ _ _ _ _ _ r h => by simp [laws_FnExactNewDesk.j1] at h⟩
  | k + 1 => by
    obtain ⟨ih0, ih1⟩ := laws_FnExactNewDesk.mono_l k
    refine ⟨?_, ?_⟩
    · intro y0 y1 y2 y3 y4 y5 y6 y7 y8 y9 y10 y11 y12 y13 y14 y15 y16
      unfold laws_FnExactNewDesk.j0
      repeat' first
      | (with_reducible exact ih0 _ _ _ _ _ _ _ _ _ _ _ _ _ _ _ _ _)
      | (with_reducible exact ih1 _ _ _ _ _ _ _ _ _)
      | (with_reducible exact laws_eqDesk.mono _ _ _ _ _ _ _ _ _ _ _ _ _ _ _)
      | (with_reducible exact laws_heldDesk.mono _ _ _ _ _ _ _ _ _)
      | (with_reducible exact laws_markDesk.mono _ _ _ _ _ _ _ _ _)
      | (with_reducible exact LeO.refl _)
      | (with_reducible exact LeO.none _)
      | (with_reducible refine LeO.ite ?_ ?_)
      | (with_reducible refine LeO.bind ?_ (fun _ => ?_))
      | exact ih0 _ _ _ _ _ _ _ _ _ _ _ _ _ _ _ _ _
      | exact ih1 _ _ _ _ _ _ _ _ _
      | exact laws_eqDesk.mono _ _ _ _ _ _ _ _ _ _ _ _ _ _ _
      | exact laws_heldDesk.mono _ _ _ _ _ _ _ _ _
      | exact laws_markDesk.mono _ _ _ _ _ _ _ _ _
      | exact LeO.none _
      | refine LeO.ite ?_ ?_
      | refine LeO.bind ?_ (fun _ => ?_)
    · intro y0 y1 y2 y3 y4 y5 y6 y7 y8
      unfold laws_FnExactNewDesk.j1
      repeat' first
      | (with_reducible exact ih0 _ _ _ _ _ _ _ _ _ _ _ _ _ _ _ _ _)
      | (with_reducible exact ih1 _ _ _ _ _ _ _ _ _)
      | (with_reducible exact laws_eqDesk.mono _ _ _ _ _ _ _ _ _ _ _ _ _ _ _)
      | (with_reducible exact laws_heldDesk.mono _ _ _ _ _ _ _ _ _)
      | (with_reducible exact laws_markDesk.mono _ _ _ _ _ _ _ _ _)
      | (with_reducible exact LeO.refl _)
      | (with_reducible exact LeO.none _)
      | (with_reducible refine LeO.ite ?_ ?_)
      | (with_reducible refine LeO.bind ?_ (fun _ => ?_))
      | exact ih0 _ _ _ _ _ _ _ _ _ _ _ _ _ _ _ _ _
      | exact ih1 _ _ _ _ _ _ _ _ _
      | exact laws_eqDesk.mono _ _ _ _ _ _ _ _ _ _ _ _ _ _ _
      | exact laws_heldDesk.mono _ _ _ _ _ _ _ _ _
      | exact laws_markDesk.mono _ _ _ _ _ _ _ _ _
      | exact LeO.none _
      | refine LeO.ite ?_ ?_
      | refine LeO.bind ?_ (fun _ => ?_)
theorem laws_FnExactNewDesk.mono : ∀ a0 k, LeO (laws_FnExactNewDesk.f k a0) (laws_FnExactNewDesk.f (k + 1) a0) := by
  intro a0 k
  obtain ⟨ih0, ih1⟩ := laws_FnExactNewDesk.mono_l k
  unfold laws_FnExactNewDesk.f
  repeat' first
      | (with_reducible exact ih0 _ _ _ _ _ _ _ _ _ _ _ _ _ _ _ _ _)
      | (with_reducible exact ih1 _ _ _ _ _ _ _ _ _)
      | (with_reducible exact laws_eqDesk.mono _ _ _ _ _ _ _ _ _ _ _ _ _ _ _)
      | (with_reducible exact laws_heldDesk.mono _ _ _ _ _ _ _ _ _)
      | (with_reducible exact laws_markDesk.mono _ _ _ _ _ _ _ _ _)
      | (with_reducible exact LeO.refl _)
      | (with_reducible exact LeO.none _)
      | (with_reducible refine LeO.ite ?_ ?_)
      | (with_reducible refine LeO.bind ?_ (fun _ => ?_))
      | exact ih0 _ _ _ _ _ _ _ _ _ _ _ _ _ _ _ _ _
      | exact ih1 _ _ _ _ _ _ _ _ _
      | exact laws_eqDesk.mono _ _ _ _ _ _ _ _ _ _ _ _ _ _ _
      | exact laws_heldDesk.mono _ _ _ _ _ _ _ _ _
      | exact laws_markDesk.mono _ _ _ _ _ _ _ _ _
      | exact LeO.none _
      | refine LeO.ite ?_ ?_
      | refine LeO.bind ?_ (fun _ => ?_)
set_option maxHeartbeats 8000000 in
set_option maxRecDepth 100000 in
theorem laws_FnExactNewDesk.calls (k : Nat) (a0 : ByteArray) (r : Bool) (w : World) (h : laws_FnExactNewDesk.f k a0 = some r) (hT : Go.Proofs.YtihiodhlmnhfdaaDoor.Base.Tb2 w) :
    Calls Tryd.prog 3 #[.string a0] w fun e w' => e = .returned (.bool r) ∧ Below w.heap.size w w' := by
  have HTB := Aside0.mk hT
  clear hT
  have hu31 := Tryd.underlying31
  have HB := Aside0.mk (Below.refl w.heap.size w)
  have H : (if (a0.size : Int) > 1048576 then (some true) else ((spec_NewDesk.f a0).bind fun bt321 => ((impl_NewDesk.f a0).bind fun bt338 => ((laws_eqDesk.f k bt338.1 bt338.2.1 bt338.2.2.1 bt338.2.2.2.1 bt338.2.2.2.2.1 bt338.2.2.2.2.2.1 bt338.2.2.2.2.2.2.1 bt321.1 bt321.2.1 bt321.2.2.1 bt321.2.2.2.1 bt321.2.2.2.2.1 bt321.2.2.2.2.2.1 bt321.2.2.2.2.2.2.1).bind fun t355 => (if t355 = true then (laws_FnExactNewDesk.j0 k a0 bt321.2.2.2.2.2.2.2 (bt338.2.2.2.2.2.2.2 != bt321.2.2.2.2.2.2.2) bt321.1 bt321.2.1 bt321.2.2.1 bt321.2.2.2.1 bt321.2.2.2.2.1 bt321.2.2.2.2.2.1 bt321.2.2.2.2.2.2.1 bt338.1 bt338.2.1 bt338.2.2.1 bt338.2.2.2.1 bt338.2.2.2.2.1 bt338.2.2.2.2.2.1 bt338.2.2.2.2.2.2.1) else (none)))))) = some r := h
  clear h
  by_cases c2 : (a0.size : Int) > 1048576
  · rw [if_pos c2] at H
    have c2b0 : decide (1048576 < (a0.size : Int)) = true := decide_eq_true c2
    have c2b1 : decide (1048576 < a0.size) = true := decide_eq_true (by omega)
    clear c2
    obtain rfl := Option.some.inj H
    go_enter Tryd.func3, Tryd.ntmps3
    go_wp2
    go_ret
    exact ⟨by first | rfl | (simp [errW_none, errW_some] <;> rfl) | (simp [*, errW_none, errW_some] <;> rfl), bwl_⟩
  · rw [if_neg c2] at H
    have c2b0 : decide (1048576 < (a0.size : Int)) = false := decide_eq_false c2
    have c2b1 : decide (1048576 < a0.size) = false := decide_eq_false (by omega)
    clear c2
    replace H := Option.bind_eq_some_iff.mp H
    obtain ⟨⟨t321, t322, t325, t328, t331, t334, t335, t336⟩, A30, H⟩ := H
    replace H : ((impl_NewDesk.f a0).bind fun bt338 => ((laws_eqDesk.f k bt338.1 bt338.2.1 bt338.2.2.1 bt338.2.2.2.1 bt338.2.2.2.2.1 bt338.2.2.2.2.2.1 bt338.2.2.2.2.2.2.1 t321 t322 t325 t328 t331 t334 t335).bind fun t355 => (if t355 = true then (laws_FnExactNewDesk.j0 k a0 t336 (bt338.2.2.2.2.2.2.2 != t336) t321 t322 t325 t328 t331 t334 t335 bt338.1 bt338.2.1 bt338.2.2.1 bt338.2.2.2.1 bt338.2.2.2.2.1 bt338.2.2.2.2.2.1 bt338.2.2.2.2.2.2.1) else (none)))) = some r := H
    have A3 := Aside0.mk A30
    clear A30
    replace H := Option.bind_eq_some_iff.mp H
    obtain ⟨⟨t338, t339, t342, t345, t348, t351, t352, t353⟩, A40, H⟩ := H
    replace H : ((laws_eqDesk.f k t338 t339 t342 t345 t348 t351 t352 t321 t322 t325 t328 t331 t334 t335).bind fun t355 => (if t355 = true then (laws_FnExactNewDesk.j0 k a0 t336 (t353 != t336) t321 t322 t325 t328 t331 t334 t335 t338 t339 t342 t345 t348 t351 t352) else (none))) = some r := H
    have A4 := Aside0.mk A40
    clear A40
    have HC5 := Aside0.mk H
    clear H
    go_enter Tryd.func3, Tryd.ntmps3
    go_upto_region 5 with (first | ((with_reducible refine gate_callee (f := 4) rfl ?_); refine goesL_ (some 16) rfl rfl Tryd.func4 (by kernel_rfl) rfl #[.string a0] rfl (by (try simp only [List.map_toArray, List.map_cons, List.map_nil]); first | done | rfl | (simp only [List.length_drop, List.length_take]; rfl)) ?_; (with_reducible refine (spec_NewDesk.calls a0 t321 t322 t325 t328 t331 t334 t335 t336 _ A3.out).mono ?_); rintro e w6 ⟨v323, v326, v329, v332, rfl, ho0, ho1, ho2, ho3, hb⟩; refine ⟨_, rfl, ?_⟩; have HO324 := Aside0.mk (Kd.R_lower ho0 (below_size bwl_)); have HO327 := Aside0.mk (Kd.R_lower ho1 (below_size bwl_)); have HO330 := Aside0.mk (Kd.R_lower ho2 (below_size bwl_)); have HO333 := Aside0.mk (Kd.R_lower ho3 (below_size bwl_)); replace HB := bst_ hb; (try clear hb); (try clear hb2); (try clear hk); (try clear hi); (try clear ho0); (try clear ho1); (try clear ho2); (try clear ho3)) | ((with_reducible refine gate_dst (N := 3) rfl ?_); refine box_event ?hg (N := 3) ?hd (cs := #[.int .i64 0, .slice none 0 0, .slice none 0 0, .slice none 0 0, .slice none 0 0, .string (⟨#[]⟩ : ByteArray), .string (⟨#[]⟩ : ByteArray)]) (t := 31) ?hr ?_; (case hd => rfl); (case hg => rfl); (case hr => first | (go_simp; done) | (go_simp; rfl)); intro gb337 hg w7 hbox hb; replace HO324 := Aside0.mk (Kd.R_below (by (with_reducible repeat (first | apply Kd.R_alloc | apply Kd.R_drewN | apply Kd.R_drew)); exact HO324.out) hb); replace HO327 := Aside0.mk (Kd.R_below (by (with_reducible repeat (first | apply Kd.R_alloc | apply Kd.R_drewN | apply Kd.R_drew)); exact HO327.out) hb); replace HO330 := Aside0.mk (Kd.R_below (by (with_reducible repeat (first | apply Kd.R_alloc | apply Kd.R_drewN | apply Kd.R_drew)); exact HO330.out) hb); replace HO333 := Aside0.mk (Kd.R_below (by (with_reducible repeat (first | apply Kd.R_alloc | apply Kd.R_drewN | apply Kd.R_drew)); exact HO333.out) hb); have BK337 := Aside0.mk (hbox); have GW337 := bsz_ hg; have GE337 := bsz_ hg; replace HB := bst_ hb; clear hb hbox hg; have hcz8_0 : w7.cell? ⟨gb337, 0, none⟩ = some (.int .i64 0) := (blk_cell BK337.out 0).trans rfl; have hcz8_1 : w7.cell? ⟨gb337, 1, none⟩ = some (.slice none 0 0) := (blk_cell BK337.out 1).trans rfl; have hcz8_2 : w7.cell? ⟨gb337, 2, none⟩ = some (.slice none 0 0) := (blk_cell BK337.out 2).trans rfl; have hcz8_3 : w7.cell? ⟨gb337, 3, none⟩ = some (.slice none 0 0) := (blk_cell BK337.out 3).trans rfl; have hcz8_4 : w7.cell? ⟨gb337, 4, none⟩ = some (.slice none 0 0) := (blk_cell BK337.out 4).trans rfl; have hcz8_5 : w7.cell? ⟨gb337, 5, none⟩ = some (.string (⟨#[]⟩ : ByteArray)) := (blk_cell BK337.out 5).trans rfl; have hcz8_6 : w7.cell? ⟨gb337, 6, none⟩ = some (.string (⟨#[]⟩ : ByteArray)) := (blk_cell BK337.out 6).trans rfl; have hfz8_0 := blk_frozen BK337.out 0; have hfz8_1 := blk_frozen BK337.out 1; have hfz8_2 := blk_frozen BK337.out 2; have hfz8_3 := blk_frozen BK337.out 3; have hfz8_4 := blk_frozen BK337.out 4; have hfz8_5 := blk_frozen BK337.out 5; have hfz8_6 := blk_frozen BK337.out 6; obtain ⟨Ao9, co9, eo9⟩ := Kd.R_slice HO324.out; subst eo9; obtain ⟨Ao10, co10, eo10⟩ := Kd.R_slice HO327.out; subst eo10; obtain ⟨Ao11, co11, eo11⟩ := Kd.R_slice HO330.out; subst eo11; obtain ⟨Ao12, co12, eo12⟩ := Kd.R_slice HO333.out; subst eo12) | ((with_reducible refine gate_callee (f := 5) rfl ?_); refine goesL_ (some 21) rfl rfl Tryd.func5 (by kernel_rfl) rfl #[.string a0] rfl (by (try simp only [List.map_toArray, List.map_cons, List.map_nil]); first | done | rfl | (simp only [List.length_drop, List.length_take]; rfl)) ?_; (with_reducible refine (impl_NewDesk.calls a0 t338 t339 t342 t345 t348 t351 t352 t353 _ A4.out ?side1).mono ?_); (case side1 => exact HTB.out.below bwl_); rintro e w13 ⟨v340, v343, v346, v349, rfl, ho0, ho1, ho2, ho3, hb⟩; refine ⟨_, rfl, ?_⟩; have HO341 := Aside0.mk (Kd.R_lower (Kd.R_new' ho0 (Kd.R_lt (by (with_reducible repeat (first | apply Kd.R_alloc | apply Kd.R_drewN | apply Kd.R_drew)); exact (Kd.R_mono (Kd.R_far (p := ⟨gb337, 6, none⟩) (Kd.R_far (p := ⟨gb337, 5, none⟩) (Kd.R_far (p := ⟨gb337, 4, none⟩) (Kd.R_far (p := ⟨gb337, 3, none⟩) (Kd.R_far (p := ⟨gb337, 2, none⟩) (Kd.R_far (p := ⟨gb337, 1, none⟩) (Kd.R_far (p := ⟨gb337, 0, none⟩) (Kd.R_types HO324.out BK337.out (by decide)) (fun _ hk => hk.2) (.int .i64 t321)) (fun _ hk => hk.2) (.slice Ao9 t322.length co9)) (fun _ hk => hk.2) (.slice Ao10 t325.length co10)) (fun _ hk => hk.2) (.slice Ao11 t328.length co11)) (fun _ hk => hk.2) (.slice Ao12 t331.length co12)) (fun _ hk => hk.2) (.string t334)) (fun _ hk => hk.2) (.string t335)) (fun _ h_ => h_.1))))) (below_size bwl_)); replace HO324 := Aside0.mk (Kd.R_elder' (by (with_reducible repeat (first | apply Kd.R_alloc | apply Kd.R_drewN | apply Kd.R_drew)); exact (Kd.R_mono (Kd.R_far (p := ⟨gb337, 6, none⟩) (Kd.R_far (p := ⟨gb337, 5, none⟩) (Kd.R_far (p := ⟨gb337, 4, none⟩) (Kd.R_far (p := ⟨gb337, 3, none⟩) (Kd.R_far (p := ⟨gb337, 2, none⟩) (Kd.R_far (p := ⟨gb337, 1, none⟩) (Kd.R_far (p := ⟨gb337, 0, none⟩) (Kd.R_types HO324.out BK337.out (by decide)) (fun _ hk => hk.2) (.int .i64 t321)) (fun _ hk => hk.2) (.slice Ao9 t322.length co9)) (fun _ hk => hk.2) (.slice Ao10 t325.length co10)) (fun _ hk => hk.2) (.slice Ao11 t328.length co11)) (fun _ hk => hk.2) (.slice Ao12 t331.length co12)) (fun _ hk => hk.2) (.string t334)) (fun _ hk => hk.2) (.string t335)) (fun _ h_ => h_.1))) (Kd.R_base ho0) hb); have HO344 := Aside0.mk (Kd.R_lower (Kd.R_new' ho1 (Kd.R_lt (by (with_reducible repeat (first | apply Kd.R_alloc | apply Kd.R_drewN | apply Kd.R_drew)); exact (Kd.R_mono (Kd.R_far (p := ⟨gb337, 6, none⟩) (Kd.R_far (p := ⟨gb337, 5, none⟩) (Kd.R_far (p := ⟨gb337, 4, none⟩) (Kd.R_far (p := ⟨gb337, 3, none⟩) (Kd.R_far (p := ⟨gb337, 2, none⟩) (Kd.R_far (p := ⟨gb337, 1, none⟩) (Kd.R_far (p := ⟨gb337, 0, none⟩) (Kd.R_types HO327.out BK337.out (by decide)) (fun _ hk => hk.2) (.int .i64 t321)) (fun _ hk => hk.2) (.slice Ao9 t322.length co9)) (fun _ hk => hk.2) (.slice Ao10 t325.length co10)) (fun _ hk => hk.2) (.slice Ao11 t328.length co11)) (fun _ hk => hk.2) (.slice Ao12 t331.length co12)) (fun _ hk => hk.2) (.string t334)) (fun _ hk => hk.2) (.string t335)) (fun _ h_ => h_.1))))) (below_size bwl_)); replace HO327 := Aside0.mk (Kd.R_elder' (by (with_reducible repeat (first | apply Kd.R_alloc | apply Kd.R_drewN | apply Kd.R_drew)); exact (Kd.R_mono (Kd.R_far (p := ⟨gb337, 6, none⟩) (Kd.R_far (p := ⟨gb337, 5, none⟩) (Kd.R_far (p := ⟨gb337, 4, none⟩) (Kd.R_far (p := ⟨gb337, 3, none⟩) (Kd.R_far (p := ⟨gb337, 2, none⟩) (Kd.R_far (p := ⟨gb337, 1, none⟩) (Kd.R_far (p := ⟨gb337, 0, none⟩) (Kd.R_types HO327.out BK337.out (by decide)) (fun _ hk => hk.2) (.int .i64 t321)) (fun _ hk => hk.2) (.slice Ao9 t322.length co9)) (fun _ hk => hk.2) (.slice Ao10 t325.length co10)) (fun _ hk => hk.2) (.slice Ao11 t328.length co11)) (fun _ hk => hk.2) (.slice Ao12 t331.length co12)) (fun _ hk => hk.2) (.string t334)) (fun _ hk => hk.2) (.string t335)) (fun _ h_ => h_.1))) (Kd.R_base ho1) hb); have HO347 := Aside0.mk (Kd.R_lower (Kd.R_new' ho2 (Kd.R_lt (by (with_reducible repeat (first | apply Kd.R_alloc | apply Kd.R_drewN | apply Kd.R_drew)); exact (Kd.R_mono (Kd.R_far (p := ⟨gb337, 6, none⟩) (Kd.R_far (p := ⟨gb337, 5, none⟩) (Kd.R_far (p := ⟨gb337, 4, none⟩) (Kd.R_far (p := ⟨gb337, 3, none⟩) (Kd.R_far (p := ⟨gb337, 2, none⟩) (Kd.R_far (p := ⟨gb337, 1, none⟩) (Kd.R_far (p := ⟨gb337, 0, none⟩) (Kd.R_types HO330.out BK337.out (by decide)) (fun _ hk => hk.2) (.int .i64 t321)) (fun _ hk => hk.2) (.slice Ao9 t322.length co9)) (fun _ hk => hk.2) (.slice Ao10 t325.length co10)) (fun _ hk => hk.2) (.slice Ao11 t328.length co11)) (fun _ hk => hk.2) (.slice Ao12 t331.length co12)) (fun _ hk => hk.2) (.string t334)) (fun _ hk => hk.2) (.string t335)) (fun _ h_ => h_.1))))) (below_size bwl_)); replace HO330 := Aside0.mk (Kd.R_elder' (by (with_reducible repeat (first | apply Kd.R_alloc | apply Kd.R_drewN | apply Kd.R_drew)); exact (Kd.R_mono (Kd.R_far (p := ⟨gb337, 6, none⟩) (Kd.R_far (p := ⟨gb337, 5, none⟩) (Kd.R_far (p := ⟨gb337, 4, none⟩) (Kd.R_far (p := ⟨gb337, 3, none⟩) (Kd.R_far (p := ⟨gb337, 2, none⟩) (Kd.R_far (p := ⟨gb337, 1, none⟩) (Kd.R_far (p := ⟨gb337, 0, none⟩) (Kd.R_types HO330.out BK337.out (by decide)) (fun _ hk => hk.2) (.int .i64 t321)) (fun _ hk => hk.2) (.slice Ao9 t322.length co9)) (fun _ hk => hk.2) (.slice Ao10 t325.length co10)) (fun _ hk => hk.2) (.slice Ao11 t328.length co11)) (fun _ hk => hk.2) (.slice Ao12 t331.length co12)) (fun _ hk => hk.2) (.string t334)) (fun _ hk => hk.2) (.string t335)) (fun _ h_ => h_.1))) (Kd.R_base ho2) hb); have HO350 := Aside0.mk (Kd.R_lower (Kd.R_new' ho3 (Kd.R_lt (by (with_reducible repeat (first | apply Kd.R_alloc | apply Kd.R_drewN | apply Kd.R_drew)); exact (Kd.R_mono (Kd.R_far (p := ⟨gb337, 6, none⟩) (Kd.R_far (p := ⟨gb337, 5, none⟩) (Kd.R_far (p := ⟨gb337, 4, none⟩) (Kd.R_far (p := ⟨gb337, 3, none⟩) (Kd.R_far (p := ⟨gb337, 2, none⟩) (Kd.R_far (p := ⟨gb337, 1, none⟩) (Kd.R_far (p := ⟨gb337, 0, none⟩) (Kd.R_types HO333.out BK337.out (by decide)) (fun _ hk => hk.2) (.int .i64 t321)) (fun _ hk => hk.2) (.slice Ao9 t322.length co9)) (fun _ hk => hk.2) (.slice Ao10 t325.length co10)) (fun _ hk => hk.2) (.slice Ao11 t328.length co11)) (fun _ hk => hk.2) (.slice Ao12 t331.length co12)) (fun _ hk => hk.2) (.string t334)) (fun _ hk => hk.2) (.string t335)) (fun _ h_ => h_.1))))) (below_size bwl_)); replace HO333 := Aside0.mk (Kd.R_elder' (by (with_reducible repeat (first | apply Kd.R_alloc | apply Kd.R_drewN | apply Kd.R_drew)); exact (Kd.R_mono (Kd.R_far (p := ⟨gb337, 6, none⟩) (Kd.R_far (p := ⟨gb337, 5, none⟩) (Kd.R_far (p := ⟨gb337, 4, none⟩) (Kd.R_far (p := ⟨gb337, 3, none⟩) (Kd.R_far (p := ⟨gb337, 2, none⟩) (Kd.R_far (p := ⟨gb337, 1, none⟩) (Kd.R_far (p := ⟨gb337, 0, none⟩) (Kd.R_types HO333.out BK337.out (by decide)) (fun _ hk => hk.2) (.int .i64 t321)) (fun _ hk => hk.2) (.slice Ao9 t322.length co9)) (fun _ hk => hk.2) (.slice Ao10 t325.length co10)) (fun _ hk => hk.2) (.slice Ao11 t328.length co11)) (fun _ hk => hk.2) (.slice Ao12 t331.length co12)) (fun _ hk => hk.2) (.string t334)) (fun _ hk => hk.2) (.string t335)) (fun _ h_ => h_.1))) (Kd.R_base ho3) hb); replace BK337 := Aside0.mk (blk_below (g := gb337) (o := .cells #[.int .i64 t321, .slice Ao9 t322.length co9, .slice Ao10 t325.length co10, .slice Ao11 t328.length co11, .slice Ao12 t331.length co12, .string t334, .string t335] 31 (0, 0)) (by (with_reducible repeat (first | refine blk_drewN ?_ _ | refine blk_drew ?_ | refine blk_alloc ?_ _)); refine blk_put (cs := #[.int .i64 t321, .slice Ao9 t322.length co9, .slice Ao10 t325.length co10, .slice Ao11 t328.length co11, .slice Ao12 t331.length co12, .string t334, .string (⟨#[]⟩ : ByteArray)]) ?_ 6 _ rfl; (with_reducible repeat (first | refine blk_drewN ?_ _ | refine blk_drew ?_ | refine blk_alloc ?_ _)); refine blk_put (cs := #[.int .i64 t321, .slice Ao9 t322.length co9, .slice Ao10 t325.length co10, .slice Ao11 t328.length co11, .slice Ao12 t331.length co12, .string (⟨#[]⟩ : ByteArray), .string (⟨#[]⟩ : ByteArray)]) ?_ 5 _ rfl; (with_reducible repeat (first | refine blk_drewN ?_ _ | refine blk_drew ?_ | refine blk_alloc ?_ _)); refine blk_put (cs := #[.int .i64 t321, .slice Ao9 t322.length co9, .slice Ao10 t325.length co10, .slice Ao11 t328.length co11, .slice none 0 0, .string (⟨#[]⟩ : ByteArray), .string (⟨#[]⟩ : ByteArray)]) ?_ 4 _ rfl; (with_reducible repeat (first | refine blk_drewN ?_ _ | refine blk_drew ?_ | refine blk_alloc ?_ _)); refine blk_put (cs := #[.int .i64 t321, .slice Ao9 t322.length co9, .slice Ao10 t325.length co10, .slice none 0 0, .slice none 0 0, .string (⟨#[]⟩ : ByteArray), .string (⟨#[]⟩ : ByteArray)]) ?_ 3 _ rfl; (with_reducible repeat (first | refine blk_drewN ?_ _ | refine blk_drew ?_ | refine blk_alloc ?_ _)); refine blk_put (cs := #[.int .i64 t321, .slice Ao9 t322.length co9, .slice none 0 0, .slice none 0 0, .slice none 0 0, .string (⟨#[]⟩ : ByteArray), .string (⟨#[]⟩ : ByteArray)]) ?_ 2 _ rfl; (with_reducible repeat (first | refine blk_drewN ?_ _ | refine blk_drew ?_ | refine blk_alloc ?_ _)); refine blk_put (cs := #[.int .i64 t321, .slice none 0 0, .slice none 0 0, .slice none 0 0, .slice none 0 0, .string (⟨#[]⟩ : ByteArray), .string (⟨#[]⟩ : ByteArray)]) ?_ 1 _ rfl; (with_reducible repeat (first | refine blk_drewN ?_ _ | refine blk_drew ?_ | refine blk_alloc ?_ _)); refine blk_put (cs := #[.int .i64 0, .slice none 0 0, .slice none 0 0, .slice none 0 0, .slice none 0 0, .string (⟨#[]⟩ : ByteArray), .string (⟨#[]⟩ : ByteArray)]) ?_ 0 _ rfl; (with_reducible repeat (first | refine blk_drewN ?_ _ | refine blk_drew ?_ | refine blk_alloc ?_ _)); exact BK337.out) hb); replace HB := bst_ hb; (try clear hb); (try clear hb2); (try clear hk); (try clear hi); (try clear ho0); (try clear ho1); (try clear ho2); (try clear ho3)) | ((with_reducible refine gate_dst (N := 5) rfl ?_); refine box_event ?hg (N := 5) ?hd (cs := #[.int .i64 0, .slice none 0 0, .slice none 0 0, .slice none 0 0, .slice none 0 0, .string (⟨#[]⟩ : ByteArray), .string (⟨#[]⟩ : ByteArray)]) (t := 31) ?hr ?_; (case hd => rfl); (case hg => rfl); (case hr => first | (go_simp; done) | (go_simp; rfl)); intro gb354 hg w14 hbox hb; replace HO324 := Aside0.mk (Kd.R_below (by (with_reducible repeat (first | apply Kd.R_alloc | apply Kd.R_drewN | apply Kd.R_drew)); exact HO324.out) hb); replace HO327 := Aside0.mk (Kd.R_below (by (with_reducible repeat (first | apply Kd.R_alloc | apply Kd.R_drewN | apply Kd.R_drew)); exact HO327.out) hb); replace HO330 := Aside0.mk (Kd.R_below (by (with_reducible repeat (first | apply Kd.R_alloc | apply Kd.R_drewN | apply Kd.R_drew)); exact HO330.out) hb); replace HO333 := Aside0.mk (Kd.R_below (by (with_reducible repeat (first | apply Kd.R_alloc | apply Kd.R_drewN | apply Kd.R_drew)); exact HO333.out) hb); replace HO341 := Aside0.mk (Kd.R_below (by (with_reducible repeat (first | apply Kd.R_alloc | apply Kd.R_drewN | apply Kd.R_drew)); exact HO341.out) hb); replace HO344 := Aside0.mk (Kd.R_below (by (with_reducible repeat (first | apply Kd.R_alloc | apply Kd.R_drewN | apply Kd.R_drew)); exact HO344.out) hb); replace HO347 := Aside0.mk (Kd.R_below (by (with_reducible repeat (first | apply Kd.R_alloc | apply Kd.R_drewN | apply Kd.R_drew)); exact HO347.out) hb); replace HO350 := Aside0.mk (Kd.R_below (by (with_reducible repeat (first | apply Kd.R_alloc | apply Kd.R_drewN | apply Kd.R_drew)); exact HO350.out) hb); have BK354 := Aside0.mk (hbox); have GW354 := bsz_ hg; have GE354 := bsz_ hg; replace HB := bst_ hb; have NB337_354 := nbl_ BK337 hg; have NB354_337 := nbr_ BK337 hg; replace BK337 := bkb_ BK337 hb; clear hb hbox hg; have hnb15 := NB354_337.out; have hnc15 := NB337_354.out; have hcz16_0 : w14.cell? ⟨gb354, 0, none⟩ = some (.int .i64 0) := (blk_cell BK354.out 0).trans rfl; have hcz16_1 : w14.cell? ⟨gb354, 1, none⟩ = some (.slice none 0 0) := (blk_cell BK354.out 1).trans rfl; have hcz16_2 : w14.cell? ⟨gb354, 2, none⟩ = some (.slice none 0 0) := (blk_cell BK354.out 2).trans rfl; have hcz16_3 : w14.cell? ⟨gb354, 3, none⟩ = some (.slice none 0 0) := (blk_cell BK354.out 3).trans rfl; have hcz16_4 : w14.cell? ⟨gb354, 4, none⟩ = some (.slice none 0 0) := (blk_cell BK354.out 4).trans rfl; have hcz16_5 : w14.cell? ⟨gb354, 5, none⟩ = some (.string (⟨#[]⟩ : ByteArray)) := (blk_cell BK354.out 5).trans rfl; have hcz16_6 : w14.cell? ⟨gb354, 6, none⟩ = some (.string (⟨#[]⟩ : ByteArray)) := (blk_cell BK354.out 6).trans rfl; have hfz16_0 := blk_frozen BK354.out 0; have hfz16_1 := blk_frozen BK354.out 1; have hfz16_2 := blk_frozen BK354.out 2; have hfz16_3 := blk_frozen BK354.out 3; have hfz16_4 := blk_frozen BK354.out 4; have hfz16_5 := blk_frozen BK354.out 5; have hfz16_6 := blk_frozen BK354.out 6; obtain ⟨Ao17, co17, eo17⟩ := Kd.R_slice HO341.out; subst eo17; obtain ⟨Ao18, co18, eo18⟩ := Kd.R_slice HO344.out; subst eo18; obtain ⟨Ao19, co19, eo19⟩ := Kd.R_slice HO347.out; subst eo19; obtain ⟨Ao20, co20, eo20⟩ := Kd.R_slice HO350.out; subst eo20))
    (try simp only [Act.put, List.setIfInBounds_toArray, List.set_cons_zero, List.set_cons_succ])
    go_cut [32] (fun v32 wc => ∃ (kq : Nat) (x32_4 : Bool), v32 = .bool x32_4 ∧ Aside0 (laws_FnExactNewDesk.j0 kq a0 t336 x32_4 t321 t322 t325 t328 t331 t334 t335 t338 t339 t342 t345 t348 t351 t352 = some r) ∧ Aside0 (kq ≤ k) ∧ Aside0 (Kd.R k68 68 wc w.heap.size (fun k_ => some k_ ≠ ((.slice Ao17 t339.length co17) : Value).ownBlock) (.slice Ao9 t322.length co9) t322) ∧ Aside0 (Kd.R Kd.string 9 wc w.heap.size (fun k_ => some k_ ≠ ((.slice Ao18 t342.length co18) : Value).ownBlock) (.slice Ao10 t325.length co10) t325) ∧ Aside0 (Kd.R k71 71 wc w.heap.size (fun k_ => some k_ ≠ ((.slice Ao19 t345.length co19) : Value).ownBlock) (.slice Ao11 t328.length co11) t328) ∧ Aside0 (Kd.R k59 59 wc w.heap.size (fun k_ => some k_ ≠ ((.slice Ao20 t348.length co20) : Value).ownBlock) (.slice Ao12 t331.length co12) t331) ∧ Aside0 (Kd.R k68 68 wc w.heap.size (fun k_ => some k_ ≠ ((.slice Ao9 t322.length co9) : Value).ownBlock) (.slice Ao17 t339.length co17) t339) ∧ Aside0 (Kd.R Kd.string 9 wc w.heap.size (fun k_ => some k_ ≠ ((.slice Ao10 t325.length co10) : Value).ownBlock) (.slice Ao18 t342.length co18) t342) ∧ Aside0 (Kd.R k71 71 wc w.heap.size (fun k_ => some k_ ≠ ((.slice Ao11 t328.length co11) : Value).ownBlock) (.slice Ao19 t345.length co19) t345) ∧ Aside0 (Kd.R k59 59 wc w.heap.size (fun k_ => some k_ ≠ ((.slice Ao12 t331.length co12) : Value).ownBlock) (.slice Ao20 t348.length co20) t348) ∧ Aside0 (wc.heap[gb337]? = some (.cells #[.int .i64 t321, (.slice Ao9 t322.length co9), (.slice Ao10 t325.length co10), (.slice Ao11 t328.length co11), (.slice Ao12 t331.length co12), .string t334, .string t335] 31 (0, 0))) ∧ Aside0 (wc.heap[gb354]? = some (.cells #[.int .i64 t338, (.slice Ao17 t339.length co17), (.slice Ao18 t342.length co18), (.slice Ao19 t345.length co19), (.slice Ao20 t348.length co20), .string t351, .string t352] 31 (0, 0))) ∧ Aside0 (Below w.heap.size w wc))
    case first =>
      have H := HC5.out
      clear HC5
      replace H := Option.bind_eq_some_iff.mp H
      obtain ⟨t355, A210, H⟩ := H
      replace H : (if t355 = true then (laws_FnExactNewDesk.j0 k a0 t336 (t353 != t336) t321 t322 t325 t328 t331 t334 t335 t338 t339 t342 t345 t348 t351 t352) else (none)) = some r := H
      have A21 := Aside0.mk A210
      clear A210
      by_cases c22 : t355 = true
      · subst c22
        have H1 : (laws_FnExactNewDesk.j0 k a0 t336 (t353 != t336) t321 t322 t325 t328 t331 t334 t335 t338 t339 t342 t345 t348 t351 t352) = some r := by rw [if_pos rfl] at H; exact H
        clear H
        have H := H1
        clear H1
        have H' := Aside0.mk H
        clear H
        have hnb23 := NB354_337.out
        have hnc23 := NB337_354.out
        have hcz24_0 : w14.cell? ⟨gb354, 0, none⟩ = some (.int .i64 0) := (blk_cell BK354.out 0).trans rfl
        have hcz24_1 : w14.cell? ⟨gb354, 1, none⟩ = some (.slice none 0 0) := (blk_cell BK354.out 1).trans rfl
        have hcz24_2 : w14.cell? ⟨gb354, 2, none⟩ = some (.slice none 0 0) := (blk_cell BK354.out 2).trans rfl
        have hcz24_3 : w14.cell? ⟨gb354, 3, none⟩ = some (.slice none 0 0) := (blk_cell BK354.out 3).trans rfl
        have hcz24_4 : w14.cell? ⟨gb354, 4, none⟩ = some (.slice none 0 0) := (blk_cell BK354.out 4).trans rfl
        have hcz24_5 : w14.cell? ⟨gb354, 5, none⟩ = some (.string (⟨#[]⟩ : ByteArray)) := (blk_cell BK354.out 5).trans rfl
        have hcz24_6 : w14.cell? ⟨gb354, 6, none⟩ = some (.string (⟨#[]⟩ : ByteArray)) := (blk_cell BK354.out 6).trans rfl
        have hfz24_0 := blk_frozen BK354.out 0
        have hfz24_1 := blk_frozen BK354.out 1
        have hfz24_2 := blk_frozen BK354.out 2
        have hfz24_3 := blk_frozen BK354.out 3
        have hfz24_4 := blk_frozen BK354.out 4
        have hfz24_5 := blk_frozen BK354.out 5
        have hfz24_6 := blk_frozen BK354.out 6
        have hcz25_0 : w14.cell? ⟨gb337, 0, none⟩ = some (.int .i64 t321) := (blk_cell BK337.out 0).trans rfl
        have hcz25_1 : w14.cell? ⟨gb337, 1, none⟩ = some (.slice Ao9 t322.length co9) := (blk_cell BK337.out 1).trans rfl
        have hcz25_2 : w14.cell? ⟨gb337, 2, none⟩ = some (.slice Ao10 t325.length co10) := (blk_cell BK337.out 2).trans rfl
        have hcz25_3 : w14.cell? ⟨gb337, 3, none⟩ = some (.slice Ao11 t328.length co11) := (blk_cell BK337.out 3).trans rfl
        have hcz25_4 : w14.cell? ⟨gb337, 4, none⟩ = some (.slice Ao12 t331.length co12) := (blk_cell BK337.out 4).trans rfl
        have hcz25_5 : w14.cell? ⟨gb337, 5, none⟩ = some (.string t334) := (blk_cell BK337.out 5).trans rfl
        have hcz25_6 : w14.cell? ⟨gb337, 6, none⟩ = some (.string t335) := (blk_cell BK337.out 6).trans rfl
        have hfz25_0 := blk_frozen BK337.out 0
        have hfz25_1 := blk_frozen BK337.out 1
        have hfz25_2 := blk_frozen BK337.out 2
        have hfz25_3 := blk_frozen BK337.out 3
        have hfz25_4 := blk_frozen BK337.out 4
        have hfz25_5 := blk_frozen BK337.out 5
        have hfz25_6 := blk_frozen BK337.out 6
        go_wp2_with (first | ((with_reducible refine gate_callee (f := 6) rfl ?_); refine goesL_ (some 26) rfl rfl Tryd.func6 (by kernel_rfl) rfl #[.agg #[.int .i64 t338, .slice Ao17 t339.length co17, .slice Ao18 t342.length co18, .slice Ao19 t345.length co19, .slice Ao20 t348.length co20, .string t351, .string t352], .agg #[.int .i64 t321, .slice Ao9 t322.length co9, .slice Ao10 t325.length co10, .slice Ao11 t328.length co11, .slice Ao12 t331.length co12, .string t334, .string t335]] rfl (by (try simp only [List.map_toArray, List.map_cons, List.map_nil]); first | done | rfl | (simp only [List.length_drop, List.length_take]; rfl)) ?_; (with_reducible refine (laws_eqDesk.calls k t338 _ _ t339 _ _ t342 _ _ t345 _ _ t348 t351 t352 t321 _ _ t322 _ _ t325 _ _ t328 _ _ t331 t334 t335 true _ ?side1 ?side2 ?side3 ?side4 ?side5 ?side6 ?side7 ?side8 ?side9 ?side10 ?side11 ?side12 ?side13 ?side14 ?side15 ?side16 A21.out).mono ?_); (case side1 => refine (Kd.R_reads' (e := 68) (base := w.heap.size) (ok := fun k_ => (True ∧ some k_ ≠ (.slice Ao9 t322.length co9 : Value).ownBlock)) (n := t339.length) (c := co17) ?_).2.2; exact (by (with_reducible repeat (first | apply Kd.R_alloc | apply Kd.R_drewN | apply Kd.R_drew)); exact (Kd.R_mono (Kd.R_far (p := ⟨gb354, 6, none⟩) (Kd.R_far (p := ⟨gb354, 5, none⟩) (Kd.R_far (p := ⟨gb354, 4, none⟩) (Kd.R_far (p := ⟨gb354, 3, none⟩) (Kd.R_far (p := ⟨gb354, 2, none⟩) (Kd.R_far (p := ⟨gb354, 1, none⟩) (Kd.R_far (p := ⟨gb354, 0, none⟩) (Kd.R_types HO341.out BK354.out (by decide)) (fun _ hk => hk.2) (.int .i64 t338)) (fun _ hk => hk.2) (.slice Ao17 t339.length co17)) (fun _ hk => hk.2) (.slice Ao18 t342.length co18)) (fun _ hk => hk.2) (.slice Ao19 t345.length co19)) (fun _ hk => hk.2) (.slice Ao20 t348.length co20)) (fun _ hk => hk.2) (.string t351)) (fun _ hk => hk.2) (.string t352)) (fun _ h_ => h_.1)))); (case side2 => exact (Kd.R_reads' HO341.out).2.1); (case side3 => refine (Kd.R_reads' (e := 9) (base := w.heap.size) (ok := fun k_ => (True ∧ some k_ ≠ (.slice Ao10 t325.length co10 : Value).ownBlock)) (n := t342.length) (c := co18) ?_).2.2; exact (by (with_reducible repeat (first | apply Kd.R_alloc | apply Kd.R_drewN | apply Kd.R_drew)); exact (Kd.R_mono (Kd.R_far (p := ⟨gb354, 6, none⟩) (Kd.R_far (p := ⟨gb354, 5, none⟩) (Kd.R_far (p := ⟨gb354, 4, none⟩) (Kd.R_far (p := ⟨gb354, 3, none⟩) (Kd.R_far (p := ⟨gb354, 2, none⟩) (Kd.R_far (p := ⟨gb354, 1, none⟩) (Kd.R_far (p := ⟨gb354, 0, none⟩) (Kd.R_types HO344.out BK354.out (by decide)) (fun _ hk => hk.2) (.int .i64 t338)) (fun _ hk => hk.2) (.slice Ao17 t339.length co17)) (fun _ hk => hk.2) (.slice Ao18 t342.length co18)) (fun _ hk => hk.2) (.slice Ao19 t345.length co19)) (fun _ hk => hk.2) (.slice Ao20 t348.length co20)) (fun _ hk => hk.2) (.string t351)) (fun _ hk => hk.2) (.string t352)) (fun _ h_ => h_.1)))); (case side4 => exact (Kd.R_reads' HO344.out).2.1); (case side5 => refine (Kd.R_reads' (e := 71) (base := w.heap.size) (ok := fun k_ => (True ∧ some k_ ≠ (.slice Ao11 t328.length co11 : Value).ownBlock)) (n := t345.length) (c := co19) ?_).2.2; exact (by (with_reducible repeat (first | apply Kd.R_alloc | apply Kd.R_drewN | apply Kd.R_drew)); exact (Kd.R_mono (Kd.R_far (p := ⟨gb354, 6, none⟩) (Kd.R_far (p := ⟨gb354, 5, none⟩) (Kd.R_far (p := ⟨gb354, 4, none⟩) (Kd.R_far (p := ⟨gb354, 3, none⟩) (Kd.R_far (p := ⟨gb354, 2, none⟩) (Kd.R_far (p := ⟨gb354, 1, none⟩) (Kd.R_far (p := ⟨gb354, 0, none⟩) (Kd.R_types HO347.out BK354.out (by decide)) (fun _ hk => hk.2) (.int .i64 t338)) (fun _ hk => hk.2) (.slice Ao17 t339.length co17)) (fun _ hk => hk.2) (.slice Ao18 t342.length co18)) (fun _ hk => hk.2) (.slice Ao19 t345.length co19)) (fun _ hk => hk.2) (.slice Ao20 t348.length co20)) (fun _ hk => hk.2) (.string t351)) (fun _ hk => hk.2) (.string t352)) (fun _ h_ => h_.1)))); (case side6 => exact (Kd.R_reads' HO347.out).2.1); (case side7 => refine (Kd.R_reads' (e := 59) (base := w.heap.size) (ok := fun k_ => (True ∧ some k_ ≠ (.slice Ao12 t331.length co12 : Value).ownBlock)) (n := t348.length) (c := co20) ?_).2.2; exact (by (with_reducible repeat (first | apply Kd.R_alloc | apply Kd.R_drewN | apply Kd.R_drew)); exact (Kd.R_mono (Kd.R_far (p := ⟨gb354, 6, none⟩) (Kd.R_far (p := ⟨gb354, 5, none⟩) (Kd.R_far (p := ⟨gb354, 4, none⟩) (Kd.R_far (p := ⟨gb354, 3, none⟩) (Kd.R_far (p := ⟨gb354, 2, none⟩) (Kd.R_far (p := ⟨gb354, 1, none⟩) (Kd.R_far (p := ⟨gb354, 0, none⟩) (Kd.R_types HO350.out BK354.out (by decide)) (fun _ hk => hk.2) (.int .i64 t338)) (fun _ hk => hk.2) (.slice Ao17 t339.length co17)) (fun _ hk => hk.2) (.slice Ao18 t342.length co18)) (fun _ hk => hk.2) (.slice Ao19 t345.length co19)) (fun _ hk => hk.2) (.slice Ao20 t348.length co20)) (fun _ hk => hk.2) (.string t351)) (fun _ hk => hk.2) (.string t352)) (fun _ h_ => h_.1)))); (case side8 => exact (Kd.R_reads' HO350.out).2.1); (case side9 => refine (Kd.R_reads' (e := 68) (base := w.heap.size) (ok := fun k_ => (True ∧ some k_ ≠ (.slice Ao17 t339.length co17 : Value).ownBlock)) (n := t322.length) (c := co9) ?_).2.2; exact (by (with_reducible repeat (first | apply Kd.R_alloc | apply Kd.R_drewN | apply Kd.R_drew)); exact (Kd.R_mono (Kd.R_far (p := ⟨gb354, 6, none⟩) (Kd.R_far (p := ⟨gb354, 5, none⟩) (Kd.R_far (p := ⟨gb354, 4, none⟩) (Kd.R_far (p := ⟨gb354, 3, none⟩) (Kd.R_far (p := ⟨gb354, 2, none⟩) (Kd.R_far (p := ⟨gb354, 1, none⟩) (Kd.R_far (p := ⟨gb354, 0, none⟩) (Kd.R_types HO324.out BK354.out (by decide)) (fun _ hk => hk.2) (.int .i64 t338)) (fun _ hk => hk.2) (.slice Ao17 t339.length co17)) (fun _ hk => hk.2) (.slice Ao18 t342.length co18)) (fun _ hk => hk.2) (.slice Ao19 t345.length co19)) (fun _ hk => hk.2) (.slice Ao20 t348.length co20)) (fun _ hk => hk.2) (.string t351)) (fun _ hk => hk.2) (.string t352)) (fun _ h_ => h_.1)))); (case side10 => exact (Kd.R_reads' HO324.out).2.1); (case side11 => refine (Kd.R_reads' (e := 9) (base := w.heap.size) (ok := fun k_ => (True ∧ some k_ ≠ (.slice Ao18 t342.length co18 : Value).ownBlock)) (n := t325.length) (c := co10) ?_).2.2; exact (by (with_reducible repeat (first | apply Kd.R_alloc | apply Kd.R_drewN | apply Kd.R_drew)); exact (Kd.R_mono (Kd.R_far (p := ⟨gb354, 6, none⟩) (Kd.R_far (p := ⟨gb354, 5, none⟩) (Kd.R_far (p := ⟨gb354, 4, none⟩) (Kd.R_far (p := ⟨gb354, 3, none⟩) (Kd.R_far (p := ⟨gb354, 2, none⟩) (Kd.R_far (p := ⟨gb354, 1, none⟩) (Kd.R_far (p := ⟨gb354, 0, none⟩) (Kd.R_types HO327.out BK354.out (by decide)) (fun _ hk => hk.2) (.int .i64 t338)) (fun _ hk => hk.2) (.slice Ao17 t339.length co17)) (fun _ hk => hk.2) (.slice Ao18 t342.length co18)) (fun _ hk => hk.2) (.slice Ao19 t345.length co19)) (fun _ hk => hk.2) (.slice Ao20 t348.length co20)) (fun _ hk => hk.2) (.string t351)) (fun _ hk => hk.2) (.string t352)) (fun _ h_ => h_.1)))); (case side12 => exact (Kd.R_reads' HO327.out).2.1); (case side13 => refine (Kd.R_reads' (e := 71) (base := w.heap.size) (ok := fun k_ => (True ∧ some k_ ≠ (.slice Ao19 t345.length co19 : Value).ownBlock)) (n := t328.length) (c := co11) ?_).2.2; exact (by (with_reducible repeat (first | apply Kd.R_alloc | apply Kd.R_drewN | apply Kd.R_drew)); exact (Kd.R_mono (Kd.R_far (p := ⟨gb354, 6, none⟩) (Kd.R_far (p := ⟨gb354, 5, none⟩) (Kd.R_far (p := ⟨gb354, 4, none⟩) (Kd.R_far (p := ⟨gb354, 3, none⟩) (Kd.R_far (p := ⟨gb354, 2, none⟩) (Kd.R_far (p := ⟨gb354, 1, none⟩) (Kd.R_far (p := ⟨gb354, 0, none⟩) (Kd.R_types HO330.out BK354.out (by decide)) (fun _ hk => hk.2) (.int .i64 t338)) (fun _ hk => hk.2) (.slice Ao17 t339.length co17)) (fun _ hk => hk.2) (.slice Ao18 t342.length co18)) (fun _ hk => hk.2) (.slice Ao19 t345.length co19)) (fun _ hk => hk.2) (.slice Ao20 t348.length co20)) (fun _ hk => hk.2) (.string t351)) (fun _ hk => hk.2) (.string t352)) (fun _ h_ => h_.1)))); (case side14 => exact (Kd.R_reads' HO330.out).2.1); (case side15 => refine (Kd.R_reads' (e := 59) (base := w.heap.size) (ok := fun k_ => (True ∧ some k_ ≠ (.slice Ao20 t348.length co20 : Value).ownBlock)) (n := t331.length) (c := co12) ?_).2.2; exact (by (with_reducible repeat (first | apply Kd.R_alloc | apply Kd.R_drewN | apply Kd.R_drew)); exact (Kd.R_mono (Kd.R_far (p := ⟨gb354, 6, none⟩) (Kd.R_far (p := ⟨gb354, 5, none⟩) (Kd.R_far (p := ⟨gb354, 4, none⟩) (Kd.R_far (p := ⟨gb354, 3, none⟩) (Kd.R_far (p := ⟨gb354, 2, none⟩) (Kd.R_far (p := ⟨gb354, 1, none⟩) (Kd.R_far (p := ⟨gb354, 0, none⟩) (Kd.R_types HO333.out BK354.out (by decide)) (fun _ hk => hk.2) (.int .i64 t338)) (fun _ hk => hk.2) (.slice Ao17 t339.length co17)) (fun _ hk => hk.2) (.slice Ao18 t342.length co18)) (fun _ hk => hk.2) (.slice Ao19 t345.length co19)) (fun _ hk => hk.2) (.slice Ao20 t348.length co20)) (fun _ hk => hk.2) (.string t351)) (fun _ hk => hk.2) (.string t352)) (fun _ h_ => h_.1)))); (case side16 => exact (Kd.R_reads' HO333.out).2.1); rintro e w26 ⟨rfl, hb⟩; refine ⟨_, rfl, ?_⟩; replace HO324 := Aside0.mk (Kd.R_below (by (with_reducible repeat (first | apply Kd.R_alloc | apply Kd.R_drewN | apply Kd.R_drew)); exact (Kd.R_mono (Kd.R_far (p := ⟨gb354, 6, none⟩) (Kd.R_far (p := ⟨gb354, 5, none⟩) (Kd.R_far (p := ⟨gb354, 4, none⟩) (Kd.R_far (p := ⟨gb354, 3, none⟩) (Kd.R_far (p := ⟨gb354, 2, none⟩) (Kd.R_far (p := ⟨gb354, 1, none⟩) (Kd.R_far (p := ⟨gb354, 0, none⟩) (Kd.R_types HO324.out BK354.out (by decide)) (fun _ hk => hk.2) (.int .i64 t338)) (fun _ hk => hk.2) (.slice Ao17 t339.length co17)) (fun _ hk => hk.2) (.slice Ao18 t342.length co18)) (fun _ hk => hk.2) (.slice Ao19 t345.length co19)) (fun _ hk => hk.2) (.slice Ao20 t348.length co20)) (fun _ hk => hk.2) (.string t351)) (fun _ hk => hk.2) (.string t352)) (fun _ h_ => h_.1))) hb); replace HO327 := Aside0.mk (Kd.R_below (by (with_reducible repeat (first | apply Kd.R_alloc | apply Kd.R_drewN | apply Kd.R_drew)); exact (Kd.R_mono (Kd.R_far (p := ⟨gb354, 6, none⟩) (Kd.R_far (p := ⟨gb354, 5, none⟩) (Kd.R_far (p := ⟨gb354, 4, none⟩) (Kd.R_far (p := ⟨gb354, 3, none⟩) (Kd.R_far (p := ⟨gb354, 2, none⟩) (Kd.R_far (p := ⟨gb354, 1, none⟩) (Kd.R_far (p := ⟨gb354, 0, none⟩) (Kd.R_types HO327.out BK354.out (by decide)) (fun _ hk => hk.2) (.int .i64 t338)) (fun _ hk => hk.2) (.slice Ao17 t339.length co17)) (fun _ hk => hk.2) (.slice Ao18 t342.length co18)) (fun _ hk => hk.2) (.slice Ao19 t345.length co19)) (fun _ hk => hk.2) (.slice Ao20 t348.length co20)) (fun _ hk => hk.2) (.string t351)) (fun _ hk => hk.2) (.string t352)) (fun _ h_ => h_.1))) hb); replace HO330 := Aside0.mk (Kd.R_below (by (with_reducible repeat (first | apply Kd.R_alloc | apply Kd.R_drewN | apply Kd.R_drew)); exact (Kd.R_mono (Kd.R_far (p := ⟨gb354, 6, none⟩) (Kd.R_far (p := ⟨gb354, 5, none⟩) (Kd.R_far (p := ⟨gb354, 4, none⟩) (Kd.R_far (p := ⟨gb354, 3, none⟩) (Kd.R_far (p := ⟨gb354, 2, none⟩) (Kd.R_far (p := ⟨gb354, 1, none⟩) (Kd.R_far (p := ⟨gb354, 0, none⟩) (Kd.R_types HO330.out BK354.out (by decide)) (fun _ hk => hk.2) (.int .i64 t338)) (fun _ hk => hk.2) (.slice Ao17 t339.length co17)) (fun _ hk => hk.2) (.slice Ao18 t342.length co18)) (fun _ hk => hk.2) (.slice Ao19 t345.length co19)) (fun _ hk => hk.2) (.slice Ao20 t348.length co20)) (fun _ hk => hk.2) (.string t351)) (fun _ hk => hk.2) (.string t352)) (fun _ h_ => h_.1))) hb); replace HO333 := Aside0.mk (Kd.R_below (by (with_reducible repeat (first | apply Kd.R_alloc | apply Kd.R_drewN | apply Kd.R_drew)); exact (Kd.R_mono (Kd.R_far (p := ⟨gb354, 6, none⟩) (Kd.R_far (p := ⟨gb354, 5, none⟩) (Kd.R_far (p := ⟨gb354, 4, none⟩) (Kd.R_far (p := ⟨gb354, 3, none⟩) (Kd.R_far (p := ⟨gb354, 2, none⟩) (Kd.R_far (p := ⟨gb354, 1, none⟩) (Kd.R_far (p := ⟨gb354, 0, none⟩) (Kd.R_types HO333.out BK354.out (by decide)) (fun _ hk => hk.2) (.int .i64 t338)) (fun _ hk => hk.2) (.slice Ao17 t339.length co17)) (fun _ hk => hk.2) (.slice Ao18 t342.length co18)) (fun _ hk => hk.2) (.slice Ao19 t345.length co19)) (fun _ hk => hk.2) (.slice Ao20 t348.length co20)) (fun _ hk => hk.2) (.string t351)) (fun _ hk => hk.2) (.string t352)) (fun _ h_ => h_.1))) hb); replace HO341 := Aside0.mk (Kd.R_below (by (with_reducible repeat (first | apply Kd.R_alloc | apply Kd.R_drewN | apply Kd.R_drew)); exact (Kd.R_mono (Kd.R_far (p := ⟨gb354, 6, none⟩) (Kd.R_far (p := ⟨gb354, 5, none⟩) (Kd.R_far (p := ⟨gb354, 4, none⟩) (Kd.R_far (p := ⟨gb354, 3, none⟩) (Kd.R_far (p := ⟨gb354, 2, none⟩) (Kd.R_far (p := ⟨gb354, 1, none⟩) (Kd.R_far (p := ⟨gb354, 0, none⟩) (Kd.R_types HO341.out BK354.out (by decide)) (fun _ hk => hk.2) (.int .i64 t338)) (fun _ hk => hk.2) (.slice Ao17 t339.length co17)) (fun _ hk => hk.2) (.slice Ao18 t342.length co18)) (fun _ hk => hk.2) (.slice Ao19 t345.length co19)) (fun _ hk => hk.2) (.slice Ao20 t348.length co20)) (fun _ hk => hk.2) (.string t351)) (fun _ hk => hk.2) (.string t352)) (fun _ h_ => h_.1))) hb); replace HO344 := Aside0.mk (Kd.R_below (by (with_reducible repeat (first | apply Kd.R_alloc | apply Kd.R_drewN | apply Kd.R_drew)); exact (Kd.R_mono (Kd.R_far (p := ⟨gb354, 6, none⟩) (Kd.R_far (p := ⟨gb354, 5, none⟩) (Kd.R_far (p := ⟨gb354, 4, none⟩) (Kd.R_far (p := ⟨gb354, 3, none⟩) (Kd.R_far (p := ⟨gb354, 2, none⟩) (Kd.R_far (p := ⟨gb354, 1, none⟩) (Kd.R_far (p := ⟨gb354, 0, none⟩) (Kd.R_types HO344.out BK354.out (by decide)) (fun _ hk => hk.2) (.int .i64 t338)) (fun _ hk => hk.2) (.slice Ao17 t339.length co17)) (fun _ hk => hk.2) (.slice Ao18 t342.length co18)) (fun _ hk => hk.2) (.slice Ao19 t345.length co19)) (fun _ hk => hk.2) (.slice Ao20 t348.length co20)) (fun _ hk => hk.2) (.string t351)) (fun _ hk => hk.2) (.string t352)) (fun _ h_ => h_.1))) hb); replace HO347 := Aside0.mk (Kd.R_below (by (with_reducible repeat (first | apply Kd.R_alloc | apply Kd.R_drewN | apply Kd.R_drew)); exact (Kd.R_mono (Kd.R_far (p := ⟨gb354, 6, none⟩) (Kd.R_far (p := ⟨gb354, 5, none⟩) (Kd.R_far (p := ⟨gb354, 4, none⟩) (Kd.R_far (p := ⟨gb354, 3, none⟩) (Kd.R_far (p := ⟨gb354, 2, none⟩) (Kd.R_far (p := ⟨gb354, 1, none⟩) (Kd.R_far (p := ⟨gb354, 0, none⟩) (Kd.R_types HO347.out BK354.out (by decide)) (fun _ hk => hk.2) (.int .i64 t338)) (fun _ hk => hk.2) (.slice Ao17 t339.length co17)) (fun _ hk => hk.2) (.slice Ao18 t342.length co18)) (fun _ hk => hk.2) (.slice Ao19 t345.length co19)) (fun _ hk => hk.2) (.slice Ao20 t348.length co20)) (fun _ hk => hk.2) (.string t351)) (fun _ hk => hk.2) (.string t352)) (fun _ h_ => h_.1))) hb); replace HO350 := Aside0.mk (Kd.R_below (by (with_reducible repeat (first | apply Kd.R_alloc | apply Kd.R_drewN | apply Kd.R_drew)); exact (Kd.R_mono (Kd.R_far (p := ⟨gb354, 6, none⟩) (Kd.R_far (p := ⟨gb354, 5, none⟩) (Kd.R_far (p := ⟨gb354, 4, none⟩) (Kd.R_far (p := ⟨gb354, 3, none⟩) (Kd.R_far (p := ⟨gb354, 2, none⟩) (Kd.R_far (p := ⟨gb354, 1, none⟩) (Kd.R_far (p := ⟨gb354, 0, none⟩) (Kd.R_types HO350.out BK354.out (by decide)) (fun _ hk => hk.2) (.int .i64 t338)) (fun _ hk => hk.2) (.slice Ao17 t339.length co17)) (fun _ hk => hk.2) (.slice Ao18 t342.length co18)) (fun _ hk => hk.2) (.slice Ao19 t345.length co19)) (fun _ hk => hk.2) (.slice Ao20 t348.length co20)) (fun _ hk => hk.2) (.string t351)) (fun _ hk => hk.2) (.string t352)) (fun _ h_ => h_.1))) hb); replace BK337 := bkb_ BK337 hb; replace BK354 := Aside0.mk (blk_below (g := gb354) (o := .cells #[.int .i64 t338, .slice Ao17 t339.length co17, .slice Ao18 t342.length co18, .slice Ao19 t345.length co19, .slice Ao20 t348.length co20, .string t351, .string t352] 31 (0, 0)) (by (with_reducible repeat (first | refine blk_drewN ?_ _ | refine blk_drew ?_ | refine blk_alloc ?_ _)); refine blk_put (cs := #[.int .i64 t338, .slice Ao17 t339.length co17, .slice Ao18 t342.length co18, .slice Ao19 t345.length co19, .slice Ao20 t348.length co20, .string t351, .string (⟨#[]⟩ : ByteArray)]) ?_ 6 _ rfl; (with_reducible repeat (first | refine blk_drewN ?_ _ | refine blk_drew ?_ | refine blk_alloc ?_ _)); refine blk_put (cs := #[.int .i64 t338, .slice Ao17 t339.length co17, .slice Ao18 t342.length co18, .slice Ao19 t345.length co19, .slice Ao20 t348.length co20, .string (⟨#[]⟩ : ByteArray), .string (⟨#[]⟩ : ByteArray)]) ?_ 5 _ rfl; (with_reducible repeat (first | refine blk_drewN ?_ _ | refine blk_drew ?_ | refine blk_alloc ?_ _)); refine blk_put (cs := #[.int .i64 t338, .slice Ao17 t339.length co17, .slice Ao18 t342.length co18, .slice Ao19 t345.length co19, .slice none 0 0, .string (⟨#[]⟩ : ByteArray), .string (⟨#[]⟩ : ByteArray)]) ?_ 4 _ rfl; (with_reducible repeat (first | refine blk_drewN ?_ _ | refine blk_drew ?_ | refine blk_alloc ?_ _)); refine blk_put (cs := #[.int .i64 t338, .slice Ao17 t339.length co17, .slice Ao18 t342.length co18, .slice none 0 0, .slice none 0 0, .string (⟨#[]⟩ : ByteArray), .string (⟨#[]⟩ : ByteArray)]) ?_ 3 _ rfl; (with_reducible repeat (first | refine blk_drewN ?_ _ | refine blk_drew ?_ | refine blk_alloc ?_ _)); refine blk_put (cs := #[.int .i64 t338, .slice Ao17 t339.length co17, .slice none 0 0, .slice none 0 0, .slice none 0 0, .string (⟨#[]⟩ : ByteArray), .string (⟨#[]⟩ : ByteArray)]) ?_ 2 _ rfl; (with_reducible repeat (first | refine blk_drewN ?_ _ | refine blk_drew ?_ | refine blk_alloc ?_ _)); refine blk_put (cs := #[.int .i64 t338, .slice none 0 0, .slice none 0 0, .slice none 0 0, .slice none 0 0, .string (⟨#[]⟩ : ByteArray), .string (⟨#[]⟩ : ByteArray)]) ?_ 1 _ rfl; (with_reducible repeat (first | refine blk_drewN ?_ _ | refine blk_drew ?_ | refine blk_alloc ?_ _)); refine blk_put (cs := #[.int .i64 0, .slice none 0 0, .slice none 0 0, .slice none 0 0, .slice none 0 0, .string (⟨#[]⟩ : ByteArray), .string (⟨#[]⟩ : ByteArray)]) ?_ 0 _ rfl; (with_reducible repeat (first | refine blk_drewN ?_ _ | refine blk_drew ?_ | refine blk_alloc ?_ _)); exact BK354.out) hb); replace HB := bst_ hb; (try clear hb); (try clear hb2); (try clear hk); (try clear hi)))
        go_meet
        case rel => exact ⟨_, ((t353 != t336)), (by first | rfl | (simp; done) | (simp [*]; done)), H', ⟨by first | omega | exact Nat.le_refl _⟩, ⟨by (with_reducible repeat (first | apply Kd.R_alloc | apply Kd.R_drewN | apply Kd.R_drew)); exact Kd.R_mono HO324.out (fun _ hk => hk.2)⟩, ⟨by (with_reducible repeat (first | apply Kd.R_alloc | apply Kd.R_drewN | apply Kd.R_drew)); exact Kd.R_mono HO327.out (fun _ hk => hk.2)⟩, ⟨by (with_reducible repeat (first | apply Kd.R_alloc | apply Kd.R_drewN | apply Kd.R_drew)); exact Kd.R_mono HO330.out (fun _ hk => hk.2)⟩, ⟨by (with_reducible repeat (first | apply Kd.R_alloc | apply Kd.R_drewN | apply Kd.R_drew)); exact Kd.R_mono HO333.out (fun _ hk => hk.2)⟩, ⟨by (with_reducible repeat (first | apply Kd.R_alloc | apply Kd.R_drewN | apply Kd.R_drew)); exact Kd.R_mono HO341.out (fun _ hk => hk.2)⟩, ⟨by (with_reducible repeat (first | apply Kd.R_alloc | apply Kd.R_drewN | apply Kd.R_drew)); exact Kd.R_mono HO344.out (fun _ hk => hk.2)⟩, ⟨by (with_reducible repeat (first | apply Kd.R_alloc | apply Kd.R_drewN | apply Kd.R_drew)); exact Kd.R_mono HO347.out (fun _ hk => hk.2)⟩, ⟨by (with_reducible repeat (first | apply Kd.R_alloc | apply Kd.R_drewN | apply Kd.R_drew)); exact Kd.R_mono HO350.out (fun _ hk => hk.2)⟩, ⟨by (with_reducible repeat (first | refine blk_drewN ?_ _ | refine blk_drew ?_ | refine blk_alloc ?_ _)); exact BK337.out⟩, ⟨by (with_reducible repeat (first | refine blk_drewN ?_ _ | refine blk_drew ?_ | refine blk_alloc ?_ _)); exact BK354.out⟩, ⟨bwl_⟩⟩
      · rw [if_neg c22] at H
        exact absurd H (by simp)
    case rest =>
      clear HC5
      try clear c2
      try clear c2b0
      try clear c2b1
      try clear c22
      try clear hcz16_0
      try clear hcz16_1
      try clear hcz16_2
      try clear hcz16_3
      try clear hcz16_4
      try clear hcz16_5
      try clear hcz16_6
      try clear hcz24_0
      try clear hcz24_1
      try clear hcz24_2
      try clear hcz24_3
      try clear hcz24_4
      try clear hcz24_5
      try clear hcz24_6
      try clear hcz25_0
      try clear hcz25_1
      try clear hcz25_2
      try clear hcz25_3
      try clear hcz25_4
      try clear hcz25_5
      try clear hcz25_6
      try clear hcz28_0
      try clear hcz28_1
      try clear hcz28_2
      try clear hcz28_3
      try clear hcz28_4
      try clear hcz28_5
      try clear hcz28_6
      try clear hcz29_0
      try clear hcz29_1
      try clear hcz29_2
      try clear hcz29_3
      try clear hcz29_4
      try clear hcz29_5
      try clear hcz29_6
      try clear hcz8_0
      try clear hcz8_1
      try clear hcz8_2
      try clear hcz8_3
      try clear hcz8_4
      try clear hcz8_5
      try clear hcz8_6
      try clear hfz16_0
      try clear hfz16_1
      try clear hfz16_2
      try clear hfz16_3
      try clear hfz16_4
      try clear hfz16_5
      try clear hfz16_6
      try clear hfz24_0
      try clear hfz24_1
      try clear hfz24_2
      try clear hfz24_3
      try clear hfz24_4
      try clear hfz24_5
      try clear hfz24_6
      try clear hfz25_0
      try clear hfz25_1
      try clear hfz25_2
      try clear hfz25_3
      try clear hfz25_4
      try clear hfz25_5
      try clear hfz25_6
      try clear hfz28_0
      try clear hfz28_1
      try clear hfz28_2
      try clear hfz28_3
      try clear hfz28_4
      try clear hfz28_5
      try clear hfz28_6
      try clear hfz29_0
      try clear hfz29_1
      try clear hfz29_2
      try clear hfz29_3
      try clear hfz29_4
      try clear hfz29_5
      try clear hfz29_6
      try clear hfz8_0
      try clear hfz8_1
      try clear hfz8_2
      try clear hfz8_3
      try clear hfz8_4
      try clear hfz8_5
      try clear hfz8_6
      obtain ⟨kq, x32_4, rfl, HA, HJ4, HO_338001, HO_338002, HO_338003, HO_338004, HO_355001, HO_355002, HO_355003, HO_355004, BK337, BK354, HB⟩ := hcut
      cases kq with
      | zero => exact absurd HA.out (by simp [laws_FnExactNewDesk.j0])
      | succ kj4 =>
        have H := HA.out
        clear HA
        simp only [laws_FnExactNewDesk.j0] at H
        by_cases c31 : x32_4 = true
        · rw [if_pos c31] at H
          exact absurd H (by simp)
        · replace c31 := Bool.eq_false_iff.mpr c31
          subst c31
          have H1 : ((laws_markDesk.f kj4 t338 t339 t342 t345 t348 t351 t352 1).bind fun bt356 => ((laws_heldDesk.f kj4 t338 bt356.2.1 bt356.2.2.1 bt356.2.2.2.1 bt356.2.2.2.2 t351 t352 1).bind fun t361 => (if t361 < 0 then (none) else (if t361 = bt356.1 then ((impl_NewDesk.f a0).bind fun bt362 => ((laws_eqDesk.f kj4 bt362.1 bt362.2.1 bt362.2.2.1 bt362.2.2.2.1 bt362.2.2.2.2.1 bt362.2.2.2.2.2.1 bt362.2.2.2.2.2.2.1 t321 t322 t325 t328 t331 t334 t335).bind fun t379 => (if t379 = true then (laws_FnExactNewDesk.j1 kj4 bt356.1 (bt362.2.2.2.2.2.2.2 != t336) t338 bt356.2.1 bt356.2.2.1 bt356.2.2.2.1 bt356.2.2.2.2 t351 t352) else (none)))) else (none))))) = some r := by rw [if_neg (show ¬ (false = true) by decide)] at H; exact H
          clear H
          have H := H1
          clear H1
          replace H := Option.bind_eq_some_iff.mp H
          obtain ⟨⟨t356, t357, t358, t359, t360⟩, A320, H⟩ := H
          replace H : ((laws_heldDesk.f kj4 t338 t357 t358 t359 t360 t351 t352 1).bind fun t361 => (if t361 < 0 then (none) else (if t361 = t356 then ((impl_NewDesk.f a0).bind fun bt362 => ((laws_eqDesk.f kj4 bt362.1 bt362.2.1 bt362.2.2.1 bt362.2.2.2.1 bt362.2.2.2.2.1 bt362.2.2.2.2.2.1 bt362.2.2.2.2.2.2.1 t321 t322 t325 t328 t331 t334 t335).bind fun t379 => (if t379 = true then (laws_FnExactNewDesk.j1 kj4 t356 (bt362.2.2.2.2.2.2.2 != t336) t338 t357 t358 t359 t360 t351 t352) else (none)))) else (none)))) = some r := H
          have A32 := Aside0.mk A320
          clear A320
          replace H := Option.bind_eq_some_iff.mp H
          obtain ⟨t361, A330, H⟩ := H
          replace H : (if t361 < 0 then (none) else (if t361 = t356 then ((impl_NewDesk.f a0).bind fun bt362 => ((laws_eqDesk.f kj4 bt362.1 bt362.2.1 bt362.2.2.1 bt362.2.2.2.1 bt362.2.2.2.2.1 bt362.2.2.2.2.2.1 bt362.2.2.2.2.2.2.1 t321 t322 t325 t328 t331 t334 t335).bind fun t379 => (if t379 = true then (laws_FnExactNewDesk.j1 kj4 t356 (bt362.2.2.2.2.2.2.2 != t336) t338 t357 t358 t359 t360 t351 t352) else (none)))) else (none))) = some r := H
          have A33 := Aside0.mk A330
          clear A330
          by_cases c34 : t361 < 0
          · rw [if_pos c34] at H
            exact absurd H (by simp)
          · rw [if_neg c34] at H
            have c34b0 : decide (t361 < 0) = false := decide_eq_false c34
            clear c34
            by_cases c40 : t361 = t356
            · rw [if_pos c40] at H
              have c40b0 : (t361 == t356) = true := beq_iff_eq.mpr c40
              have c40b1 : (t361 != t356) = false := bne_eq_false_iff_eq.mpr c40
              clear c40
              replace H := Option.bind_eq_some_iff.mp H
              obtain ⟨⟨t362, t363, t366, t369, t372, t375, t376, t377⟩, A410, H⟩ := H
              replace H : ((laws_eqDesk.f kj4 t362 t363 t366 t369 t372 t375 t376 t321 t322 t325 t328 t331 t334 t335).bind fun t379 => (if t379 = true then (laws_FnExactNewDesk.j1 kj4 t356 (t377 != t336) t338 t357 t358 t359 t360 t351 t352) else (none))) = some r := H
              have A41 := Aside0.mk A410
              clear A410
              have HC42 := Aside0.mk H
              clear H
              have hnb43 := NB354_337.out
              have hnc43 := NB337_354.out
              have hcz44_0 : wc.cell? ⟨gb354, 0, none⟩ = some (.int .i64 t338) := (blk_cell BK354.out 0).trans rfl
              have hcz44_1 : wc.cell? ⟨gb354, 1, none⟩ = some (.slice Ao17 t339.length co17) := (blk_cell BK354.out 1).trans rfl
              have hcz44_2 : wc.cell? ⟨gb354, 2, none⟩ = some (.slice Ao18 t342.length co18) := (blk_cell BK354.out 2).trans rfl
              have hcz44_3 : wc.cell? ⟨gb354, 3, none⟩ = some (.slice Ao19 t345.length co19) := (blk_cell BK354.out 3).trans rfl
              have hcz44_4 : wc.cell? ⟨gb354, 4, none⟩ = some (.slice Ao20 t348.length co20) := (blk_cell BK354.out 4).trans rfl
              have hcz44_5 : wc.cell? ⟨gb354, 5, none⟩ = some (.string t351) := (blk_cell BK354.out 5).trans rfl
              have hcz44_6 : wc.cell? ⟨gb354, 6, none⟩ = some (.string t352) := (blk_cell BK354.out 6).trans rfl
              have hfz44_0 := blk_frozen BK354.out 0
              have hfz44_1 := blk_frozen BK354.out 1
              have hfz44_2 := blk_frozen BK354.out 2
              have hfz44_3 := blk_frozen BK354.out 3
              have hfz44_4 := blk_frozen BK354.out 4
              have hfz44_5 := blk_frozen BK354.out 5
              have hfz44_6 := blk_frozen BK354.out 6
              go_upto_region 16 with (first | ((with_reducible refine gate_callee (f := 7) rfl ?_); refine goesL_ (some 35) rfl rfl Tryd.func7 (by kernel_rfl) rfl #[.agg #[.int .i64 t338, .slice Ao17 t339.length co17, .slice Ao18 t342.length co18, .slice Ao19 t345.length co19, .slice Ao20 t348.length co20, .string t351, .string t352], .int .i64 1] rfl (by (try simp only [List.map_toArray, List.map_cons, List.map_nil]); first | done | rfl | (simp only [List.length_drop, List.length_take]; rfl)) ?_; (with_reducible refine (laws_markDesk.calls kj4 t338 (fun k_ => some k_ = (.slice Ao17 t339.length co17 : Value).ownBlock) (.slice Ao17 t339.length co17) t339 (fun k_ => some k_ = (.slice Ao18 t342.length co18 : Value).ownBlock) (.slice Ao18 t342.length co18) t342 (fun k_ => some k_ = (.slice Ao19 t345.length co19 : Value).ownBlock) (.slice Ao19 t345.length co19) t345 (fun k_ => some k_ = (.slice Ao20 t348.length co20 : Value).ownBlock) (.slice Ao20 t348.length co20) t348 t351 t352 1 t356 t357 t358 t359 t360 w _ ?side1 ?side2 ?side3 ?side4 ?side5 A32.out).mono ?_); (case side1 => exact bwl_); (case side2 => exact Kd.R_tight rfl HO_355001.out); (case side3 => exact Kd.R_tight rfl HO_355002.out); (case side4 => exact Kd.R_tight rfl HO_355003.out); (case side5 => exact Kd.R_tight rfl HO_355004.out); rintro e w45 ⟨rfl, hy0, hy1, hy2, hy3, hb, hkp⟩; refine ⟨_, rfl, ?_⟩; replace HO_338001 := Aside0.mk (Kd.R_mono (ok' := fun k_ => some k_ ≠ (.slice Ao17 t339.length co17 : Value).ownBlock) (Kd.R_keptB ((Kd.R_apart' (Kd.R_apart' (Kd.R_apart' HO_338001.out (Kd.R_typed HO_355002.out) (by decide)) (Kd.R_typed HO_355003.out) (by decide)) (Kd.R_typed HO_355004.out) (by decide))) hkp (fun k_ hk_ hs_ => Or.elim hs_ (fun e_ => (hk_.1.1.1) e_) (fun e_ => Or.elim e_ (fun e_ => (hk_.1.1.2) e_) (fun e_ => Or.elim e_ (fun e_ => (hk_.1.2) e_) (fun e_ => (hk_.2) e_))))) (fun k_ hk_ => hk_.1.1.1.1)); replace HO_338002 := Aside0.mk (Kd.R_mono (ok' := fun k_ => some k_ ≠ (.slice Ao18 t342.length co18 : Value).ownBlock) (Kd.R_keptB ((Kd.R_apart' (Kd.R_apart' (Kd.R_apart' HO_338002.out (Kd.R_typed HO_355001.out) (by decide)) (Kd.R_typed HO_355003.out) (by decide)) (Kd.R_typed HO_355004.out) (by decide))) hkp (fun k_ hk_ hs_ => Or.elim hs_ (fun e_ => (hk_.1.1.2) e_) (fun e_ => Or.elim e_ (fun e_ => (hk_.1.1.1) e_) (fun e_ => Or.elim e_ (fun e_ => (hk_.1.2) e_) (fun e_ => (hk_.2) e_))))) (fun k_ hk_ => hk_.1.1.1.1)); replace HO_338003 := Aside0.mk (Kd.R_mono (ok' := fun k_ => some k_ ≠ (.slice Ao19 t345.length co19 : Value).ownBlock) (Kd.R_keptB ((Kd.R_apart' (Kd.R_apart' (Kd.R_apart' HO_338003.out (Kd.R_typed HO_355001.out) (by decide)) (Kd.R_typed HO_355002.out) (by decide)) (Kd.R_typed HO_355004.out) (by decide))) hkp (fun k_ hk_ hs_ => Or.elim hs_ (fun e_ => (hk_.1.1.2) e_) (fun e_ => Or.elim e_ (fun e_ => (hk_.1.2) e_) (fun e_ => Or.elim e_ (fun e_ => (hk_.1.1.1) e_) (fun e_ => (hk_.2) e_))))) (fun k_ hk_ => hk_.1.1.1.1)); replace HO_338004 := Aside0.mk (Kd.R_mono (ok' := fun k_ => some k_ ≠ (.slice Ao20 t348.length co20 : Value).ownBlock) (Kd.R_keptB ((Kd.R_apart' (Kd.R_apart' (Kd.R_apart' HO_338004.out (Kd.R_typed HO_355001.out) (by decide)) (Kd.R_typed HO_355002.out) (by decide)) (Kd.R_typed HO_355003.out) (by decide))) hkp (fun k_ hk_ hs_ => Or.elim hs_ (fun e_ => (hk_.1.1.2) e_) (fun e_ => Or.elim e_ (fun e_ => (hk_.1.2) e_) (fun e_ => Or.elim e_ (fun e_ => (hk_.2) e_) (fun e_ => (hk_.1.1.1) e_))))) (fun k_ hk_ => hk_.1.1.1.1)); replace BK337 := Aside0.mk (blk_kept (by (with_reducible repeat (first | refine blk_drewN ?_ _ | refine blk_drew ?_ | refine blk_alloc ?_ _)); exact BK337.out) hkp (fun hs_ => Or.elim hs_ (fun e_ => (fun e_ => (Kd.R_ne HO_355001.out BK337.out (by decide)) e_) e_) (fun e_ => Or.elim e_ (fun e_ => (fun e_ => (Kd.R_ne HO_355002.out BK337.out (by decide)) e_) e_) (fun e_ => Or.elim e_ (fun e_ => (fun e_ => (Kd.R_ne HO_355003.out BK337.out (by decide)) e_) e_) (fun e_ => (fun e_ => (Kd.R_ne HO_355004.out BK337.out (by decide)) e_) e_))))); replace BK354 := Aside0.mk (blk_kept (by (with_reducible repeat (first | refine blk_drewN ?_ _ | refine blk_drew ?_ | refine blk_alloc ?_ _)); exact BK354.out) hkp (fun hs_ => Or.elim hs_ (fun e_ => (fun e_ => (Kd.R_ne HO_355001.out BK354.out (by decide)) e_) e_) (fun e_ => Or.elim e_ (fun e_ => (fun e_ => (Kd.R_ne HO_355002.out BK354.out (by decide)) e_) e_) (fun e_ => Or.elim e_ (fun e_ => (fun e_ => (Kd.R_ne HO_355003.out BK354.out (by decide)) e_) e_) (fun e_ => (fun e_ => (Kd.R_ne HO_355004.out BK354.out (by decide)) e_) e_))))); replace HO_355001 := Aside0.mk (Kd.R_reok rfl hy0 (fun k_ e_ => HO_355001.out.1 k_ e_)); replace HO_355002 := Aside0.mk (Kd.R_reok rfl hy1 (fun k_ e_ => HO_355002.out.1 k_ e_)); replace HO_355003 := Aside0.mk (Kd.R_reok rfl hy2 (fun k_ e_ => HO_355003.out.1 k_ e_)); replace HO_355004 := Aside0.mk (Kd.R_reok rfl hy3 (fun k_ e_ => HO_355004.out.1 k_ e_)); replace HB := Aside0.mk (hb); (try clear hb); (try clear hkp); (try clear hy0); (try clear hy1); (try clear hy2); (try clear hy3); have hcz46_0 : w45.cell? ⟨gb354, 0, none⟩ = some (.int .i64 t338) := (blk_cell BK354.out 0).trans rfl; have hcz46_1 : w45.cell? ⟨gb354, 1, none⟩ = some (.slice Ao17 t339.length co17) := (blk_cell BK354.out 1).trans rfl; have hcz46_2 : w45.cell? ⟨gb354, 2, none⟩ = some (.slice Ao18 t342.length co18) := (blk_cell BK354.out 2).trans rfl; have hcz46_3 : w45.cell? ⟨gb354, 3, none⟩ = some (.slice Ao19 t345.length co19) := (blk_cell BK354.out 3).trans rfl; have hcz46_4 : w45.cell? ⟨gb354, 4, none⟩ = some (.slice Ao20 t348.length co20) := (blk_cell BK354.out 4).trans rfl; have hcz46_5 : w45.cell? ⟨gb354, 5, none⟩ = some (.string t351) := (blk_cell BK354.out 5).trans rfl; have hcz46_6 : w45.cell? ⟨gb354, 6, none⟩ = some (.string t352) := (blk_cell BK354.out 6).trans rfl; have hfz46_0 := blk_frozen BK354.out 0; have hfz46_1 := blk_frozen BK354.out 1; have hfz46_2 := blk_frozen BK354.out 2; have hfz46_3 := blk_frozen BK354.out 3; have hfz46_4 := blk_frozen BK354.out 4; have hfz46_5 := blk_frozen BK354.out 5; have hfz46_6 := blk_frozen BK354.out 6) | ((with_reducible refine gate_callee (f := 8) rfl ?_); refine goesL_ (some 38) rfl rfl Tryd.func8 (by kernel_rfl) rfl #[.agg #[.int .i64 t338, .slice Ao17 t357.length co17, .slice Ao18 t358.length co18, .slice Ao19 t359.length co19, .slice Ao20 t360.length co20, .string t351, .string t352], .int .i64 1] rfl (by (try simp only [List.map_toArray, List.map_cons, List.map_nil]); first | done | (rw [show t357.length = t339.length from (Kd.R_reads' HO_355001.out).1.symm, show t358.length = t342.length from (Kd.R_reads' HO_355002.out).1.symm, show t359.length = t345.length from (Kd.R_reads' HO_355003.out).1.symm, show t360.length = t348.length from (Kd.R_reads' HO_355004.out).1.symm] <;> rfl) | rfl | (simp only [List.length_drop, List.length_take]; rfl)) ?_; (with_reducible refine (laws_heldDesk.calls kj4 t338 _ _ t357 _ _ t358 _ _ t359 _ _ t360 t351 t352 1 t361 _ ?side1 ?side2 ?side3 ?side4 ?side5 ?side6 ?side7 ?side8 A33.out).mono ?_); (case side1 => repeat (first | exact (Kd.R_reads' HO_355001.out).2.2 | (with_reducible refine Kd.C_alloc ?_ _) | (with_reducible refine Kd.C_drewN ?_ _) | (with_reducible refine Kd.C_drew ?_))); (case side2 => rw [show t357.length = t339.length from (Kd.R_reads' HO_355001.out).1.symm]; exact (Kd.R_reads' HO_355001.out).2.1); (case side3 => repeat (first | exact (Kd.R_reads' HO_355002.out).2.2 | (with_reducible refine Kd.C_alloc ?_ _) | (with_reducible refine Kd.C_drewN ?_ _) | (with_reducible refine Kd.C_drew ?_))); (case side4 => rw [show t358.length = t342.length from (Kd.R_reads' HO_355002.out).1.symm]; exact (Kd.R_reads' HO_355002.out).2.1); (case side5 => repeat (first | exact (Kd.R_reads' HO_355003.out).2.2 | (with_reducible refine Kd.C_alloc ?_ _) | (with_reducible refine Kd.C_drewN ?_ _) | (with_reducible refine Kd.C_drew ?_))); (case side6 => rw [show t359.length = t345.length from (Kd.R_reads' HO_355003.out).1.symm]; exact (Kd.R_reads' HO_355003.out).2.1); (case side7 => repeat (first | exact (Kd.R_reads' HO_355004.out).2.2 | (with_reducible refine Kd.C_alloc ?_ _) | (with_reducible refine Kd.C_drewN ?_ _) | (with_reducible refine Kd.C_drew ?_))); (case side8 => rw [show t360.length = t348.length from (Kd.R_reads' HO_355004.out).1.symm]; exact (Kd.R_reads' HO_355004.out).2.1); rintro e w47 ⟨rfl, hb⟩; refine ⟨_, rfl, ?_⟩; replace HO_338001 := Aside0.mk (Kd.R_below (by (with_reducible repeat (first | apply Kd.R_alloc | apply Kd.R_drewN | apply Kd.R_drew)); exact HO_338001.out) hb); replace HO_338002 := Aside0.mk (Kd.R_below (by (with_reducible repeat (first | apply Kd.R_alloc | apply Kd.R_drewN | apply Kd.R_drew)); exact HO_338002.out) hb); replace HO_338003 := Aside0.mk (Kd.R_below (by (with_reducible repeat (first | apply Kd.R_alloc | apply Kd.R_drewN | apply Kd.R_drew)); exact HO_338003.out) hb); replace HO_338004 := Aside0.mk (Kd.R_below (by (with_reducible repeat (first | apply Kd.R_alloc | apply Kd.R_drewN | apply Kd.R_drew)); exact HO_338004.out) hb); replace HO_355001 := Aside0.mk (Kd.R_below (by (with_reducible repeat (first | apply Kd.R_alloc | apply Kd.R_drewN | apply Kd.R_drew)); exact HO_355001.out) hb); replace HO_355002 := Aside0.mk (Kd.R_below (by (with_reducible repeat (first | apply Kd.R_alloc | apply Kd.R_drewN | apply Kd.R_drew)); exact HO_355002.out) hb); replace HO_355003 := Aside0.mk (Kd.R_below (by (with_reducible repeat (first | apply Kd.R_alloc | apply Kd.R_drewN | apply Kd.R_drew)); exact HO_355003.out) hb); replace HO_355004 := Aside0.mk (Kd.R_below (by (with_reducible repeat (first | apply Kd.R_alloc | apply Kd.R_drewN | apply Kd.R_drew)); exact HO_355004.out) hb); replace BK337 := bkb_ BK337 hb; replace BK354 := bkb_ BK354 hb; replace HB := bst_ hb; (try clear hb); (try clear hb2); (try clear hk); (try clear hi)) | ((with_reducible refine gate_callee (f := 5) rfl ?_); refine goesL_ (some 46) rfl rfl Tryd.func5 (by kernel_rfl) rfl #[.string a0] rfl (by (try simp only [List.map_toArray, List.map_cons, List.map_nil]); first | done | rfl | (simp only [List.length_drop, List.length_take]; rfl)) ?_; (with_reducible refine (impl_NewDesk.calls a0 t362 t363 t366 t369 t372 t375 t376 t377 _ A41.out ?side1).mono ?_); (case side1 => exact HTB.out.below bwl_); rintro e w48 ⟨v364, v367, v370, v373, rfl, ho0, ho1, ho2, ho3, hb⟩; refine ⟨_, rfl, ?_⟩; have HO365 := Aside0.mk (Kd.R_lower (Kd.R_new' (Kd.R_new' ho0 (Kd.R_lt (by (with_reducible repeat (first | apply Kd.R_alloc | apply Kd.R_drewN | apply Kd.R_drew)); exact HO_338001.out))) (Kd.R_lt (by (with_reducible repeat (first | apply Kd.R_alloc | apply Kd.R_drewN | apply Kd.R_drew)); exact HO_355001.out))) (below_size bwl_)); replace HO_338001 := Aside0.mk (Kd.R_elder' (by (with_reducible repeat (first | apply Kd.R_alloc | apply Kd.R_drewN | apply Kd.R_drew)); exact HO_338001.out) (Kd.R_base ho0) hb); replace HO_355001 := Aside0.mk (Kd.R_elder' (by (with_reducible repeat (first | apply Kd.R_alloc | apply Kd.R_drewN | apply Kd.R_drew)); exact HO_355001.out) (Kd.R_base ho0) hb); have HO368 := Aside0.mk (Kd.R_lower (Kd.R_new' (Kd.R_new' ho1 (Kd.R_lt (by (with_reducible repeat (first | apply Kd.R_alloc | apply Kd.R_drewN | apply Kd.R_drew)); exact HO_338002.out))) (Kd.R_lt (by (with_reducible repeat (first | apply Kd.R_alloc | apply Kd.R_drewN | apply Kd.R_drew)); exact HO_355002.out))) (below_size bwl_)); replace HO_338002 := Aside0.mk (Kd.R_elder' (by (with_reducible repeat (first | apply Kd.R_alloc | apply Kd.R_drewN | apply Kd.R_drew)); exact HO_338002.out) (Kd.R_base ho1) hb); replace HO_355002 := Aside0.mk (Kd.R_elder' (by (with_reducible repeat (first | apply Kd.R_alloc | apply Kd.R_drewN | apply Kd.R_drew)); exact HO_355002.out) (Kd.R_base ho1) hb); have HO371 := Aside0.mk (Kd.R_lower (Kd.R_new' (Kd.R_new' ho2 (Kd.R_lt (by (with_reducible repeat (first | apply Kd.R_alloc | apply Kd.R_drewN | apply Kd.R_drew)); exact HO_338003.out))) (Kd.R_lt (by (with_reducible repeat (first | apply Kd.R_alloc | apply Kd.R_drewN | apply Kd.R_drew)); exact HO_355003.out))) (below_size bwl_)); replace HO_338003 := Aside0.mk (Kd.R_elder' (by (with_reducible repeat (first | apply Kd.R_alloc | apply Kd.R_drewN | apply Kd.R_drew)); exact HO_338003.out) (Kd.R_base ho2) hb); replace HO_355003 := Aside0.mk (Kd.R_elder' (by (with_reducible repeat (first | apply Kd.R_alloc | apply Kd.R_drewN | apply Kd.R_drew)); exact HO_355003.out) (Kd.R_base ho2) hb); have HO374 := Aside0.mk (Kd.R_lower (Kd.R_new' (Kd.R_new' ho3 (Kd.R_lt (by (with_reducible repeat (first | apply Kd.R_alloc | apply Kd.R_drewN | apply Kd.R_drew)); exact HO_338004.out))) (Kd.R_lt (by (with_reducible repeat (first | apply Kd.R_alloc | apply Kd.R_drewN | apply Kd.R_drew)); exact HO_355004.out))) (below_size bwl_)); replace HO_338004 := Aside0.mk (Kd.R_elder' (by (with_reducible repeat (first | apply Kd.R_alloc | apply Kd.R_drewN | apply Kd.R_drew)); exact HO_338004.out) (Kd.R_base ho3) hb); replace HO_355004 := Aside0.mk (Kd.R_elder' (by (with_reducible repeat (first | apply Kd.R_alloc | apply Kd.R_drewN | apply Kd.R_drew)); exact HO_355004.out) (Kd.R_base ho3) hb); replace BK337 := bkb_ BK337 hb; replace BK354 := bkb_ BK354 hb; replace HB := bst_ hb; (try clear hb); (try clear hb2); (try clear hk); (try clear hi); (try clear ho0); (try clear ho1); (try clear ho2); (try clear ho3)) | ((with_reducible refine gate_dst (N := 9) rfl ?_); refine box_event ?hg (N := 9) ?hd (cs := #[.int .i64 0, .slice none 0 0, .slice none 0 0, .slice none 0 0, .slice none 0 0, .string (⟨#[]⟩ : ByteArray), .string (⟨#[]⟩ : ByteArray)]) (t := 31) ?hr ?_; (case hd => rfl); (case hg => rfl); (case hr => first | (go_simp; done) | (go_simp; rfl)); intro gb378 hg w49 hbox hb; replace HO_338001 := Aside0.mk (Kd.R_below (by (with_reducible repeat (first | apply Kd.R_alloc | apply Kd.R_drewN | apply Kd.R_drew)); exact HO_338001.out) hb); replace HO_338002 := Aside0.mk (Kd.R_below (by (with_reducible repeat (first | apply Kd.R_alloc | apply Kd.R_drewN | apply Kd.R_drew)); exact HO_338002.out) hb); replace HO_338003 := Aside0.mk (Kd.R_below (by (with_reducible repeat (first | apply Kd.R_alloc | apply Kd.R_drewN | apply Kd.R_drew)); exact HO_338003.out) hb); replace HO_338004 := Aside0.mk (Kd.R_below (by (with_reducible repeat (first | apply Kd.R_alloc | apply Kd.R_drewN | apply Kd.R_drew)); exact HO_338004.out) hb); replace HO_355001 := Aside0.mk (Kd.R_below (by (with_reducible repeat (first | apply Kd.R_alloc | apply Kd.R_drewN | apply Kd.R_drew)); exact HO_355001.out) hb); replace HO_355002 := Aside0.mk (Kd.R_below (by (with_reducible repeat (first | apply Kd.R_alloc | apply Kd.R_drewN | apply Kd.R_drew)); exact HO_355002.out) hb); replace HO_355003 := Aside0.mk (Kd.R_below (by (with_reducible repeat (first | apply Kd.R_alloc | apply Kd.R_drewN | apply Kd.R_drew)); exact HO_355003.out) hb); replace HO_355004 := Aside0.mk (Kd.R_below (by (with_reducible repeat (first | apply Kd.R_alloc | apply Kd.R_drewN | apply Kd.R_drew)); exact HO_355004.out) hb); replace HO365 := Aside0.mk (Kd.R_below (by (with_reducible repeat (first | apply Kd.R_alloc | apply Kd.R_drewN | apply Kd.R_drew)); exact HO365.out) hb); replace HO368 := Aside0.mk (Kd.R_below (by (with_reducible repeat (first | apply Kd.R_alloc | apply Kd.R_drewN | apply Kd.R_drew)); exact HO368.out) hb); replace HO371 := Aside0.mk (Kd.R_below (by (with_reducible repeat (first | apply Kd.R_alloc | apply Kd.R_drewN | apply Kd.R_drew)); exact HO371.out) hb); replace HO374 := Aside0.mk (Kd.R_below (by (with_reducible repeat (first | apply Kd.R_alloc | apply Kd.R_drewN | apply Kd.R_drew)); exact HO374.out) hb); have BK378 := Aside0.mk (hbox); have GW378 := bsz_ hg; have GE378 := bsz_ hg; replace HB := bst_ hb; have NB337_378 := nbl_ BK337 hg; have NB378_337 := nbr_ BK337 hg; replace BK337 := bkb_ BK337 hb; have NB354_378 := nbl_ BK354 hg; have NB378_354 := nbr_ BK354 hg; replace BK354 := bkb_ BK354 hb; clear hb hbox hg; have hnb50 := NB378_337.out; have hnc50 := NB337_378.out; have hnb51 := NB378_354.out; have hnc51 := NB354_378.out; have hcz52_0 : w49.cell? ⟨gb378, 0, none⟩ = some (.int .i64 0) := (blk_cell BK378.out 0).trans rfl; have hcz52_1 : w49.cell? ⟨gb378, 1, none⟩ = some (.slice none 0 0) := (blk_cell BK378.out 1).trans rfl; have hcz52_2 : w49.cell? ⟨gb378, 2, none⟩ = some (.slice none 0 0) := (blk_cell BK378.out 2).trans rfl; have hcz52_3 : w49.cell? ⟨gb378, 3, none⟩ = some (.slice none 0 0) := (blk_cell BK378.out 3).trans rfl; have hcz52_4 : w49.cell? ⟨gb378, 4, none⟩ = some (.slice none 0 0) := (blk_cell BK378.out 4).trans rfl; have hcz52_5 : w49.cell? ⟨gb378, 5, none⟩ = some (.string (⟨#[]⟩ : ByteArray)) := (blk_cell BK378.out 5).trans rfl; have hcz52_6 : w49.cell? ⟨gb378, 6, none⟩ = some (.string (⟨#[]⟩ : ByteArray)) := (blk_cell BK378.out 6).trans rfl; have hfz52_0 := blk_frozen BK378.out 0; have hfz52_1 := blk_frozen BK378.out 1; have hfz52_2 := blk_frozen BK378.out 2; have hfz52_3 := blk_frozen BK378.out 3; have hfz52_4 := blk_frozen BK378.out 4; have hfz52_5 := blk_frozen BK378.out 5; have hfz52_6 := blk_frozen BK378.out 6; obtain ⟨Ao53, co53, eo53⟩ := Kd.R_slice HO365.out; subst eo53; obtain ⟨Ao54, co54, eo54⟩ := Kd.R_slice HO368.out; subst eo54; obtain ⟨Ao55, co55, eo55⟩ := Kd.R_slice HO371.out; subst eo55; obtain ⟨Ao56, co56, eo56⟩ := Kd.R_slice HO374.out; subst eo56))
              (try simp only [Act.put, List.setIfInBounds_toArray, List.set_cons_zero, List.set_cons_succ])
              go_cut [57] (fun v57 wc => ∃ (kq : Nat) (x57_41 : Bool), v57 = .bool x57_41 ∧ Aside0 (laws_FnExactNewDesk.j1 kq t356 x57_41 t338 t357 t358 t359 t360 t351 t352 = some r) ∧ Aside0 (kq ≤ kj4) ∧ Aside0 (Kd.R k68 68 wc w.heap.size (fun k_ => some k_ ≠ ((.slice Ao17 t339.length co17) : Value).ownBlock ∧ some k_ ≠ ((.slice Ao53 t363.length co53) : Value).ownBlock) (.slice Ao9 t322.length co9) t322) ∧ Aside0 (Kd.R Kd.string 9 wc w.heap.size (fun k_ => some k_ ≠ ((.slice Ao18 t342.length co18) : Value).ownBlock ∧ some k_ ≠ ((.slice Ao54 t366.length co54) : Value).ownBlock) (.slice Ao10 t325.length co10) t325) ∧ Aside0 (Kd.R k71 71 wc w.heap.size (fun k_ => some k_ ≠ ((.slice Ao19 t345.length co19) : Value).ownBlock ∧ some k_ ≠ ((.slice Ao55 t369.length co55) : Value).ownBlock) (.slice Ao11 t328.length co11) t328) ∧ Aside0 (Kd.R k59 59 wc w.heap.size (fun k_ => some k_ ≠ ((.slice Ao20 t348.length co20) : Value).ownBlock ∧ some k_ ≠ ((.slice Ao56 t372.length co56) : Value).ownBlock) (.slice Ao12 t331.length co12) t331) ∧ Aside0 (Kd.R k68 68 wc w.heap.size (fun k_ => some k_ ≠ ((.slice Ao9 t322.length co9) : Value).ownBlock ∧ some k_ ≠ ((.slice Ao53 t363.length co53) : Value).ownBlock) (.slice Ao17 t339.length co17) t357) ∧ Aside0 (Kd.R Kd.string 9 wc w.heap.size (fun k_ => some k_ ≠ ((.slice Ao10 t325.length co10) : Value).ownBlock ∧ some k_ ≠ ((.slice Ao54 t366.length co54) : Value).ownBlock) (.slice Ao18 t342.length co18) t358) ∧ Aside0 (Kd.R k71 71 wc w.heap.size (fun k_ => some k_ ≠ ((.slice Ao11 t328.length co11) : Value).ownBlock ∧ some k_ ≠ ((.slice Ao55 t369.length co55) : Value).ownBlock) (.slice Ao19 t345.length co19) t359) ∧ Aside0 (Kd.R k59 59 wc w.heap.size (fun k_ => some k_ ≠ ((.slice Ao12 t331.length co12) : Value).ownBlock ∧ some k_ ≠ ((.slice Ao56 t372.length co56) : Value).ownBlock) (.slice Ao20 t348.length co20) t360) ∧ Aside0 (Kd.R k68 68 wc w.heap.size (fun k_ => some k_ ≠ ((.slice Ao9 t322.length co9) : Value).ownBlock ∧ some k_ ≠ ((.slice Ao17 t339.length co17) : Value).ownBlock) (.slice Ao53 t363.length co53) t363) ∧ Aside0 (Kd.R Kd.string 9 wc w.heap.size (fun k_ => some k_ ≠ ((.slice Ao10 t325.length co10) : Value).ownBlock ∧ some k_ ≠ ((.slice Ao18 t342.length co18) : Value).ownBlock) (.slice Ao54 t366.length co54) t366) ∧ Aside0 (Kd.R k71 71 wc w.heap.size (fun k_ => some k_ ≠ ((.slice Ao11 t328.length co11) : Value).ownBlock ∧ some k_ ≠ ((.slice Ao19 t345.length co19) : Value).ownBlock) (.slice Ao55 t369.length co55) t369) ∧ Aside0 (Kd.R k59 59 wc w.heap.size (fun k_ => some k_ ≠ ((.slice Ao12 t331.length co12) : Value).ownBlock ∧ some k_ ≠ ((.slice Ao20 t348.length co20) : Value).ownBlock) (.slice Ao56 t372.length co56) t372) ∧ Aside0 (wc.heap[gb337]? = some (.cells #[.int .i64 t321, (.slice Ao9 t322.length co9), (.slice Ao10 t325.length co10), (.slice Ao11 t328.length co11), (.slice Ao12 t331.length co12), .string t334, .string t335] 31 (0, 0))) ∧ Aside0 (wc.heap[gb354]? = some (.cells #[.int .i64 t338, (.slice Ao17 t339.length co17), (.slice Ao18 t342.length co18), (.slice Ao19 t345.length co19), (.slice Ao20 t348.length co20), .string t351, .string t352] 31 (0, 0))) ∧ Aside0 (wc.heap[gb378]? = some (.cells #[.int .i64 t362, (.slice Ao53 t363.length co53), (.slice Ao54 t366.length co54), (.slice Ao55 t369.length co55), (.slice Ao56 t372.length co56), .string t375, .string t376] 31 (0, 0))) ∧ Aside0 (Below w.heap.size w wc))
              case first =>
                have H := HC42.out
                clear HC42
                replace H := Option.bind_eq_some_iff.mp H
                obtain ⟨t379, A570, H⟩ := H
                replace H : (if t379 = true then (laws_FnExactNewDesk.j1 kj4 t356 (t377 != t336) t338 t357 t358 t359 t360 t351 t352) else (none)) = some r := H
                have A57 := Aside0.mk A570
                clear A570
                by_cases c58 : t379 = true
                · subst c58
                  have H1 : (laws_FnExactNewDesk.j1 kj4 t356 (t377 != t336) t338 t357 t358 t359 t360 t351 t352) = some r := by rw [if_pos rfl] at H; exact H
                  clear H
                  have H := H1
                  clear H1
                  have H' := Aside0.mk H
                  clear H
                  have hnb59 := NB378_337.out
                  have hnc59 := NB337_378.out
                  have hnb60 := NB378_354.out
                  have hnc60 := NB354_378.out
                  have hcz61_0 : w49.cell? ⟨gb378, 0, none⟩ = some (.int .i64 0) := (blk_cell BK378.out 0).trans rfl
                  have hcz61_1 : w49.cell? ⟨gb378, 1, none⟩ = some (.slice none 0 0) := (blk_cell BK378.out 1).trans rfl
                  have hcz61_2 : w49.cell? ⟨gb378, 2, none⟩ = some (.slice none 0 0) := (blk_cell BK378.out 2).trans rfl
                  have hcz61_3 : w49.cell? ⟨gb378, 3, none⟩ = some (.slice none 0 0) := (blk_cell BK378.out 3).trans rfl
                  have hcz61_4 : w49.cell? ⟨gb378, 4, none⟩ = some (.slice none 0 0) := (blk_cell BK378.out 4).trans rfl
                  have hcz61_5 : w49.cell? ⟨gb378, 5, none⟩ = some (.string (⟨#[]⟩ : ByteArray)) := (blk_cell BK378.out 5).trans rfl
                  have hcz61_6 : w49.cell? ⟨gb378, 6, none⟩ = some (.string (⟨#[]⟩ : ByteArray)) := (blk_cell BK378.out 6).trans rfl
                  have hfz61_0 := blk_frozen BK378.out 0
                  have hfz61_1 := blk_frozen BK378.out 1
                  have hfz61_2 := blk_frozen BK378.out 2
                  have hfz61_3 := blk_frozen BK378.out 3
                  have hfz61_4 := blk_frozen BK378.out 4
                  have hfz61_5 := blk_frozen BK378.out 5
                  have hfz61_6 := blk_frozen BK378.out 6
                  have hnb62 := NB337_354.out
                  have hnc62 := NB354_337.out
                  have hcz63_0 : w49.cell? ⟨gb337, 0, none⟩ = some (.int .i64 t321) := (blk_cell BK337.out 0).trans rfl
                  have hcz63_1 : w49.cell? ⟨gb337, 1, none⟩ = some (.slice Ao9 t322.length co9) := (blk_cell BK337.out 1).trans rfl
                  have hcz63_2 : w49.cell? ⟨gb337, 2, none⟩ = some (.slice Ao10 t325.length co10) := (blk_cell BK337.out 2).trans rfl
                  have hcz63_3 : w49.cell? ⟨gb337, 3, none⟩ = some (.slice Ao11 t328.length co11) := (blk_cell BK337.out 3).trans rfl
                  have hcz63_4 : w49.cell? ⟨gb337, 4, none⟩ = some (.slice Ao12 t331.length co12) := (blk_cell BK337.out 4).trans rfl
                  have hcz63_5 : w49.cell? ⟨gb337, 5, none⟩ = some (.string t334) := (blk_cell BK337.out 5).trans rfl
                  have hcz63_6 : w49.cell? ⟨gb337, 6, none⟩ = some (.string t335) := (blk_cell BK337.out 6).trans rfl
                  have hfz63_0 := blk_frozen BK337.out 0
                  have hfz63_1 := blk_frozen BK337.out 1
                  have hfz63_2 := blk_frozen BK337.out 2
                  have hfz63_3 := blk_frozen BK337.out 3
                  have hfz63_4 := blk_frozen BK337.out 4
                  have hfz63_5 := blk_frozen BK337.out 5
                  have hfz63_6 := blk_frozen BK337.out 6
                  go_wp2_with (first | ((with_reducible refine gate_callee (f := 6) rfl ?_); refine goesL_ (some 51) rfl rfl Tryd.func6 (by kernel_rfl) rfl #[.agg #[.int .i64 t362, .slice Ao53 t363.length co53, .slice Ao54 t366.length co54, .slice Ao55 t369.length co55, .slice Ao56 t372.length co56, .string t375, .string t376], .agg #[.int .i64 t321, .slice Ao9 t322.length co9, .slice Ao10 t325.length co10, .slice Ao11 t328.length co11, .slice Ao12 t331.length co12, .string t334, .string t335]] rfl (by (try simp only [List.map_toArray, List.map_cons, List.map_nil]); first | done | rfl | (simp only [List.length_drop, List.length_take]; rfl)) ?_; (with_reducible refine (laws_eqDesk.calls kj4 t362 _ _ t363 _ _ t366 _ _ t369 _ _ t372 t375 t376 t321 _ _ t322 _ _ t325 _ _ t328 _ _ t331 t334 t335 true _ ?side1 ?side2 ?side3 ?side4 ?side5 ?side6 ?side7 ?side8 ?side9 ?side10 ?side11 ?side12 ?side13 ?side14 ?side15 ?side16 A57.out).mono ?_); (case side1 => refine (Kd.R_reads' (e := 68) (base := w.heap.size) (ok := fun k_ => ((True ∧ some k_ ≠ (.slice Ao9 t322.length co9 : Value).ownBlock) ∧ some k_ ≠ (.slice Ao17 t339.length co17 : Value).ownBlock)) (n := t363.length) (c := co53) ?_).2.2; exact (by (with_reducible repeat (first | apply Kd.R_alloc | apply Kd.R_drewN | apply Kd.R_drew)); exact (Kd.R_mono (Kd.R_far (p := ⟨gb378, 6, none⟩) (Kd.R_far (p := ⟨gb378, 5, none⟩) (Kd.R_far (p := ⟨gb378, 4, none⟩) (Kd.R_far (p := ⟨gb378, 3, none⟩) (Kd.R_far (p := ⟨gb378, 2, none⟩) (Kd.R_far (p := ⟨gb378, 1, none⟩) (Kd.R_far (p := ⟨gb378, 0, none⟩) (Kd.R_types HO365.out BK378.out (by decide)) (fun _ hk => hk.2) (.int .i64 t362)) (fun _ hk => hk.2) (.slice Ao53 t363.length co53)) (fun _ hk => hk.2) (.slice Ao54 t366.length co54)) (fun _ hk => hk.2) (.slice Ao55 t369.length co55)) (fun _ hk => hk.2) (.slice Ao56 t372.length co56)) (fun _ hk => hk.2) (.string t375)) (fun _ hk => hk.2) (.string t376)) (fun _ h_ => h_.1)))); (case side2 => exact (Kd.R_reads' HO365.out).2.1); (case side3 => refine (Kd.R_reads' (e := 9) (base := w.heap.size) (ok := fun k_ => ((True ∧ some k_ ≠ (.slice Ao10 t325.length co10 : Value).ownBlock) ∧ some k_ ≠ (.slice Ao18 t342.length co18 : Value).ownBlock)) (n := t366.length) (c := co54) ?_).2.2; exact (by (with_reducible repeat (first | apply Kd.R_alloc | apply Kd.R_drewN | apply Kd.R_drew)); exact (Kd.R_mono (Kd.R_far (p := ⟨gb378, 6, none⟩) (Kd.R_far (p := ⟨gb378, 5, none⟩) (Kd.R_far (p := ⟨gb378, 4, none⟩) (Kd.R_far (p := ⟨gb378, 3, none⟩) (Kd.R_far (p := ⟨gb378, 2, none⟩) (Kd.R_far (p := ⟨gb378, 1, none⟩) (Kd.R_far (p := ⟨gb378, 0, none⟩) (Kd.R_types HO368.out BK378.out (by decide)) (fun _ hk => hk.2) (.int .i64 t362)) (fun _ hk => hk.2) (.slice Ao53 t363.length co53)) (fun _ hk => hk.2) (.slice Ao54 t366.length co54)) (fun _ hk => hk.2) (.slice Ao55 t369.length co55)) (fun _ hk => hk.2) (.slice Ao56 t372.length co56)) (fun _ hk => hk.2) (.string t375)) (fun _ hk => hk.2) (.string t376)) (fun _ h_ => h_.1)))); (case side4 => exact (Kd.R_reads' HO368.out).2.1); (case side5 => refine (Kd.R_reads' (e := 71) (base := w.heap.size) (ok := fun k_ => ((True ∧ some k_ ≠ (.slice Ao11 t328.length co11 : Value).ownBlock) ∧ some k_ ≠ (.slice Ao19 t345.length co19 : Value).ownBlock)) (n := t369.length) (c := co55) ?_).2.2; exact (by (with_reducible repeat (first | apply Kd.R_alloc | apply Kd.R_drewN | apply Kd.R_drew)); exact (Kd.R_mono (Kd.R_far (p := ⟨gb378, 6, none⟩) (Kd.R_far (p := ⟨gb378, 5, none⟩) (Kd.R_far (p := ⟨gb378, 4, none⟩) (Kd.R_far (p := ⟨gb378, 3, none⟩) (Kd.R_far (p := ⟨gb378, 2, none⟩) (Kd.R_far (p := ⟨gb378, 1, none⟩) (Kd.R_far (p := ⟨gb378, 0, none⟩) (Kd.R_types HO371.out BK378.out (by decide)) (fun _ hk => hk.2) (.int .i64 t362)) (fun _ hk => hk.2) (.slice Ao53 t363.length co53)) (fun _ hk => hk.2) (.slice Ao54 t366.length co54)) (fun _ hk => hk.2) (.slice Ao55 t369.length co55)) (fun _ hk => hk.2) (.slice Ao56 t372.length co56)) (fun _ hk => hk.2) (.string t375)) (fun _ hk => hk.2) (.string t376)) (fun _ h_ => h_.1)))); (case side6 => exact (Kd.R_reads' HO371.out).2.1); (case side7 => refine (Kd.R_reads' (e := 59) (base := w.heap.size) (ok := fun k_ => ((True ∧ some k_ ≠ (.slice Ao12 t331.length co12 : Value).ownBlock) ∧ some k_ ≠ (.slice Ao20 t348.length co20 : Value).ownBlock)) (n := t372.length) (c := co56) ?_).2.2; exact (by (with_reducible repeat (first | apply Kd.R_alloc | apply Kd.R_drewN | apply Kd.R_drew)); exact (Kd.R_mono (Kd.R_far (p := ⟨gb378, 6, none⟩) (Kd.R_far (p := ⟨gb378, 5, none⟩) (Kd.R_far (p := ⟨gb378, 4, none⟩) (Kd.R_far (p := ⟨gb378, 3, none⟩) (Kd.R_far (p := ⟨gb378, 2, none⟩) (Kd.R_far (p := ⟨gb378, 1, none⟩) (Kd.R_far (p := ⟨gb378, 0, none⟩) (Kd.R_types HO374.out BK378.out (by decide)) (fun _ hk => hk.2) (.int .i64 t362)) (fun _ hk => hk.2) (.slice Ao53 t363.length co53)) (fun _ hk => hk.2) (.slice Ao54 t366.length co54)) (fun _ hk => hk.2) (.slice Ao55 t369.length co55)) (fun _ hk => hk.2) (.slice Ao56 t372.length co56)) (fun _ hk => hk.2) (.string t375)) (fun _ hk => hk.2) (.string t376)) (fun _ h_ => h_.1)))); (case side8 => exact (Kd.R_reads' HO374.out).2.1); (case side9 => refine (Kd.R_reads' (e := 68) (base := w.heap.size) (ok := fun k_ => (some k_ ≠ (.slice Ao17 t339.length co17 : Value).ownBlock ∧ some k_ ≠ (.slice Ao53 t363.length co53 : Value).ownBlock)) (n := t322.length) (c := co9) ?_).2.2; exact (by (with_reducible repeat (first | apply Kd.R_alloc | apply Kd.R_drewN | apply Kd.R_drew)); exact (Kd.R_mono (Kd.R_far (p := ⟨gb378, 6, none⟩) (Kd.R_far (p := ⟨gb378, 5, none⟩) (Kd.R_far (p := ⟨gb378, 4, none⟩) (Kd.R_far (p := ⟨gb378, 3, none⟩) (Kd.R_far (p := ⟨gb378, 2, none⟩) (Kd.R_far (p := ⟨gb378, 1, none⟩) (Kd.R_far (p := ⟨gb378, 0, none⟩) (Kd.R_types HO_338001.out BK378.out (by decide)) (fun _ hk => hk.2) (.int .i64 t362)) (fun _ hk => hk.2) (.slice Ao53 t363.length co53)) (fun _ hk => hk.2) (.slice Ao54 t366.length co54)) (fun _ hk => hk.2) (.slice Ao55 t369.length co55)) (fun _ hk => hk.2) (.slice Ao56 t372.length co56)) (fun _ hk => hk.2) (.string t375)) (fun _ hk => hk.2) (.string t376)) (fun _ h_ => h_.1)))); (case side10 => exact (Kd.R_reads' HO_338001.out).2.1); (case side11 => refine (Kd.R_reads' (e := 9) (base := w.heap.size) (ok := fun k_ => (some k_ ≠ (.slice Ao18 t342.length co18 : Value).ownBlock ∧ some k_ ≠ (.slice Ao54 t366.length co54 : Value).ownBlock)) (n := t325.length) (c := co10) ?_).2.2; exact (by (with_reducible repeat (first | apply Kd.R_alloc | apply Kd.R_drewN | apply Kd.R_drew)); exact (Kd.R_mono (Kd.R_far (p := ⟨gb378, 6, none⟩) (Kd.R_far (p := ⟨gb378, 5, none⟩) (Kd.R_far (p := ⟨gb378, 4, none⟩) (Kd.R_far (p := ⟨gb378, 3, none⟩) (Kd.R_far (p := ⟨gb378, 2, none⟩) (Kd.R_far (p := ⟨gb378, 1, none⟩) (Kd.R_far (p := ⟨gb378, 0, none⟩) (Kd.R_types HO_338002.out BK378.out (by decide)) (fun _ hk => hk.2) (.int .i64 t362)) (fun _ hk => hk.2) (.slice Ao53 t363.length co53)) (fun _ hk => hk.2) (.slice Ao54 t366.length co54)) (fun _ hk => hk.2) (.slice Ao55 t369.length co55)) (fun _ hk => hk.2) (.slice Ao56 t372.length co56)) (fun _ hk => hk.2) (.string t375)) (fun _ hk => hk.2) (.string t376)) (fun _ h_ => h_.1)))); (case side12 => exact (Kd.R_reads' HO_338002.out).2.1); (case side13 => refine (Kd.R_reads' (e := 71) (base := w.heap.size) (ok := fun k_ => (some k_ ≠ (.slice Ao19 t345.length co19 : Value).ownBlock ∧ some k_ ≠ (.slice Ao55 t369.length co55 : Value).ownBlock)) (n := t328.length) (c := co11) ?_).2.2; exact (by (with_reducible repeat (first | apply Kd.R_alloc | apply Kd.R_drewN | apply Kd.R_drew)); exact (Kd.R_mono (Kd.R_far (p := ⟨gb378, 6, none⟩) (Kd.R_far (p := ⟨gb378, 5, none⟩) (Kd.R_far (p := ⟨gb378, 4, none⟩) (Kd.R_far (p := ⟨gb378, 3, none⟩) (Kd.R_far (p := ⟨gb378, 2, none⟩) (Kd.R_far (p := ⟨gb378, 1, none⟩) (Kd.R_far (p := ⟨gb378, 0, none⟩) (Kd.R_types HO_338003.out BK378.out (by decide)) (fun _ hk => hk.2) (.int .i64 t362)) (fun _ hk => hk.2) (.slice Ao53 t363.length co53)) (fun _ hk => hk.2) (.slice Ao54 t366.length co54)) (fun _ hk => hk.2) (.slice Ao55 t369.length co55)) (fun _ hk => hk.2) (.slice Ao56 t372.length co56)) (fun _ hk => hk.2) (.string t375)) (fun _ hk => hk.2) (.string t376)) (fun _ h_ => h_.1)))); (case side14 => exact (Kd.R_reads' HO_338003.out).2.1); (case side15 => refine (Kd.R_reads' (e := 59) (base := w.heap.size) (ok := fun k_ => (some k_ ≠ (.slice Ao20 t348.length co20 : Value).ownBlock ∧ some k_ ≠ (.slice Ao56 t372.length co56 : Value).ownBlock)) (n := t331.length) (c := co12) ?_).2.2; exact (by (with_reducible repeat (first | apply Kd.R_alloc | apply Kd.R_drewN | apply Kd.R_drew)); exact (Kd.R_mono (Kd.R_far (p := ⟨gb378, 6, none⟩) (Kd.R_far (p := ⟨gb378, 5, none⟩) (Kd.R_far (p := ⟨gb378, 4, none⟩) (Kd.R_far (p := ⟨gb378, 3, none⟩) (Kd.R_far (p := ⟨gb378, 2, none⟩) (Kd.R_far (p := ⟨gb378, 1, none⟩) (Kd.R_far (p := ⟨gb378, 0, none⟩) (Kd.R_types HO_338004.out BK378.out (by decide)) (fun _ hk => hk.2) (.int .i64 t362)) (fun _ hk => hk.2) (.slice Ao53 t363.length co53)) (fun _ hk => hk.2) (.slice Ao54 t366.length co54)) (fun _ hk => hk.2) (.slice Ao55 t369.length co55)) (fun _ hk => hk.2) (.slice Ao56 t372.length co56)) (fun _ hk => hk.2) (.string t375)) (fun _ hk => hk.2) (.string t376)) (fun _ h_ => h_.1)))); (case side16 => exact (Kd.R_reads' HO_338004.out).2.1); rintro e w64 ⟨rfl, hb⟩; refine ⟨_, rfl, ?_⟩; replace HO_338001 := Aside0.mk (Kd.R_below (by (with_reducible repeat (first | apply Kd.R_alloc | apply Kd.R_drewN | apply Kd.R_drew)); exact (Kd.R_mono (Kd.R_far (p := ⟨gb378, 6, none⟩) (Kd.R_far (p := ⟨gb378, 5, none⟩) (Kd.R_far (p := ⟨gb378, 4, none⟩) (Kd.R_far (p := ⟨gb378, 3, none⟩) (Kd.R_far (p := ⟨gb378, 2, none⟩) (Kd.R_far (p := ⟨gb378, 1, none⟩) (Kd.R_far (p := ⟨gb378, 0, none⟩) (Kd.R_types HO_338001.out BK378.out (by decide)) (fun _ hk => hk.2) (.int .i64 t362)) (fun _ hk => hk.2) (.slice Ao53 t363.length co53)) (fun _ hk => hk.2) (.slice Ao54 t366.length co54)) (fun _ hk => hk.2) (.slice Ao55 t369.length co55)) (fun _ hk => hk.2) (.slice Ao56 t372.length co56)) (fun _ hk => hk.2) (.string t375)) (fun _ hk => hk.2) (.string t376)) (fun _ h_ => h_.1))) hb); replace HO_338002 := Aside0.mk (Kd.R_below (by (with_reducible repeat (first | apply Kd.R_alloc | apply Kd.R_drewN | apply Kd.R_drew)); exact (Kd.R_mono (Kd.R_far (p := ⟨gb378, 6, none⟩) (Kd.R_far (p := ⟨gb378, 5, none⟩) (Kd.R_far (p := ⟨gb378, 4, none⟩) (Kd.R_far (p := ⟨gb378, 3, none⟩) (Kd.R_far (p := ⟨gb378, 2, none⟩) (Kd.R_far (p := ⟨gb378, 1, none⟩) (Kd.R_far (p := ⟨gb378, 0, none⟩) (Kd.R_types HO_338002.out BK378.out (by decide)) (fun _ hk => hk.2) (.int .i64 t362)) (fun _ hk => hk.2) (.slice Ao53 t363.length co53)) (fun _ hk => hk.2) (.slice Ao54 t366.length co54)) (fun _ hk => hk.2) (.slice Ao55 t369.length co55)) (fun _ hk => hk.2) (.slice Ao56 t372.length co56)) (fun _ hk => hk.2) (.string t375)) (fun _ hk => hk.2) (.string t376)) (fun _ h_ => h_.1))) hb); replace HO_338003 := Aside0.mk (Kd.R_below (by (with_reducible repeat (first | apply Kd.R_alloc | apply Kd.R_drewN | apply Kd.R_drew)); exact (Kd.R_mono (Kd.R_far (p := ⟨gb378, 6, none⟩) (Kd.R_far (p := ⟨gb378, 5, none⟩) (Kd.R_far (p := ⟨gb378, 4, none⟩) (Kd.R_far (p := ⟨gb378, 3, none⟩) (Kd.R_far (p := ⟨gb378, 2, none⟩) (Kd.R_far (p := ⟨gb378, 1, none⟩) (Kd.R_far (p := ⟨gb378, 0, none⟩) (Kd.R_types HO_338003.out BK378.out (by decide)) (fun _ hk => hk.2) (.int .i64 t362)) (fun _ hk => hk.2) (.slice Ao53 t363.length co53)) (fun _ hk => hk.2) (.slice Ao54 t366.length co54)) (fun _ hk => hk.2) (.slice Ao55 t369.length co55)) (fun _ hk => hk.2) (.slice Ao56 t372.length co56)) (fun _ hk => hk.2) (.string t375)) (fun _ hk => hk.2) (.string t376)) (fun _ h_ => h_.1))) hb); replace HO_338004 := Aside0.mk (Kd.R_below (by (with_reducible repeat (first | apply Kd.R_alloc | apply Kd.R_drewN | apply Kd.R_drew)); exact (Kd.R_mono (Kd.R_far (p := ⟨gb378, 6, none⟩) (Kd.R_far (p := ⟨gb378, 5, none⟩) (Kd.R_far (p := ⟨gb378, 4, none⟩) (Kd.R_far (p := ⟨gb378, 3, none⟩) (Kd.R_far (p := ⟨gb378, 2, none⟩) (Kd.R_far (p := ⟨gb378, 1, none⟩) (Kd.R_far (p := ⟨gb378, 0, none⟩) (Kd.R_types HO_338004.out BK378.out (by decide)) (fun _ hk => hk.2) (.int .i64 t362)) (fun _ hk => hk.2) (.slice Ao53 t363.length co53)) (fun _ hk => hk.2) (.slice Ao54 t366.length co54)) (fun _ hk => hk.2) (.slice Ao55 t369.length co55)) (fun _ hk => hk.2) (.slice Ao56 t372.length co56)) (fun _ hk => hk.2) (.string t375)) (fun _ hk => hk.2) (.string t376)) (fun _ h_ => h_.1))) hb); replace HO_355001 := Aside0.mk (Kd.R_below (by (with_reducible repeat (first | apply Kd.R_alloc | apply Kd.R_drewN | apply Kd.R_drew)); exact (Kd.R_mono (Kd.R_far (p := ⟨gb378, 6, none⟩) (Kd.R_far (p := ⟨gb378, 5, none⟩) (Kd.R_far (p := ⟨gb378, 4, none⟩) (Kd.R_far (p := ⟨gb378, 3, none⟩) (Kd.R_far (p := ⟨gb378, 2, none⟩) (Kd.R_far (p := ⟨gb378, 1, none⟩) (Kd.R_far (p := ⟨gb378, 0, none⟩) (Kd.R_types HO_355001.out BK378.out (by decide)) (fun _ hk => hk.2) (.int .i64 t362)) (fun _ hk => hk.2) (.slice Ao53 t363.length co53)) (fun _ hk => hk.2) (.slice Ao54 t366.length co54)) (fun _ hk => hk.2) (.slice Ao55 t369.length co55)) (fun _ hk => hk.2) (.slice Ao56 t372.length co56)) (fun _ hk => hk.2) (.string t375)) (fun _ hk => hk.2) (.string t376)) (fun _ h_ => h_.1))) hb); replace HO_355002 := Aside0.mk (Kd.R_below (by (with_reducible repeat (first | apply Kd.R_alloc | apply Kd.R_drewN | apply Kd.R_drew)); exact (Kd.R_mono (Kd.R_far (p := ⟨gb378, 6, none⟩) (Kd.R_far (p := ⟨gb378, 5, none⟩) (Kd.R_far (p := ⟨gb378, 4, none⟩) (Kd.R_far (p := ⟨gb378, 3, none⟩) (Kd.R_far (p := ⟨gb378, 2, none⟩) (Kd.R_far (p := ⟨gb378, 1, none⟩) (Kd.R_far (p := ⟨gb378, 0, none⟩) (Kd.R_types HO_355002.out BK378.out (by decide)) (fun _ hk => hk.2) (.int .i64 t362)) (fun _ hk => hk.2) (.slice Ao53 t363.length co53)) (fun _ hk => hk.2) (.slice Ao54 t366.length co54)) (fun _ hk => hk.2) (.slice Ao55 t369.length co55)) (fun _ hk => hk.2) (.slice Ao56 t372.length co56)) (fun _ hk => hk.2) (.string t375)) (fun _ hk => hk.2) (.string t376)) (fun _ h_ => h_.1))) hb); replace HO_355003 := Aside0.mk (Kd.R_below (by (with_reducible repeat (first | apply Kd.R_alloc | apply Kd.R_drewN | apply Kd.R_drew)); exact (Kd.R_mono (Kd.R_far (p := ⟨gb378, 6, none⟩) (Kd.R_far (p := ⟨gb378, 5, none⟩) (Kd.R_far (p := ⟨gb378, 4, none⟩) (Kd.R_far (p := ⟨gb378, 3, none⟩) (Kd.R_far (p := ⟨gb378, 2, none⟩) (Kd.R_far (p := ⟨gb378, 1, none⟩) (Kd.R_far (p := ⟨gb378, 0, none⟩) (Kd.R_types HO_355003.out BK378.out (by decide)) (fun _ hk => hk.2) (.int .i64 t362)) (fun _ hk => hk.2) (.slice Ao53 t363.length co53)) (fun _ hk => hk.2) (.slice Ao54 t366.length co54)) (fun _ hk => hk.2) (.slice Ao55 t369.length co55)) (fun _ hk => hk.2) (.slice Ao56 t372.length co56)) (fun _ hk => hk.2) (.string t375)) (fun _ hk => hk.2) (.string t376)) (fun _ h_ => h_.1))) hb); replace HO_355004 := Aside0.mk (Kd.R_below (by (with_reducible repeat (first | apply Kd.R_alloc | apply Kd.R_drewN | apply Kd.R_drew)); exact (Kd.R_mono (Kd.R_far (p := ⟨gb378, 6, none⟩) (Kd.R_far (p := ⟨gb378, 5, none⟩) (Kd.R_far (p := ⟨gb378, 4, none⟩) (Kd.R_far (p := ⟨gb378, 3, none⟩) (Kd.R_far (p := ⟨gb378, 2, none⟩) (Kd.R_far (p := ⟨gb378, 1, none⟩) (Kd.R_far (p := ⟨gb378, 0, none⟩) (Kd.R_types HO_355004.out BK378.out (by decide)) (fun _ hk => hk.2) (.int .i64 t362)) (fun _ hk => hk.2) (.slice Ao53 t363.length co53)) (fun _ hk => hk.2) (.slice Ao54 t366.length co54)) (fun _ hk => hk.2) (.slice Ao55 t369.length co55)) (fun _ hk => hk.2) (.slice Ao56 t372.length co56)) (fun _ hk => hk.2) (.string t375)) (fun _ hk => hk.2) (.string t376)) (fun _ h_ => h_.1))) hb); replace HO365 := Aside0.mk (Kd.R_below (by (with_reducible repeat (first | apply Kd.R_alloc | apply Kd.R_drewN | apply Kd.R_drew)); exact (Kd.R_mono (Kd.R_far (p := ⟨gb378, 6, none⟩) (Kd.R_far (p := ⟨gb378, 5, none⟩) (Kd.R_far (p := ⟨gb378, 4, none⟩) (Kd.R_far (p := ⟨gb378, 3, none⟩) (Kd.R_far (p := ⟨gb378, 2, none⟩) (Kd.R_far (p := ⟨gb378, 1, none⟩) (Kd.R_far (p := ⟨gb378, 0, none⟩) (Kd.R_types HO365.out BK378.out (by decide)) (fun _ hk => hk.2) (.int .i64 t362)) (fun _ hk => hk.2) (.slice Ao53 t363.length co53)) (fun _ hk => hk.2) (.slice Ao54 t366.length co54)) (fun _ hk => hk.2) (.slice Ao55 t369.length co55)) (fun _ hk => hk.2) (.slice Ao56 t372.length co56)) (fun _ hk => hk.2) (.string t375)) (fun _ hk => hk.2) (.string t376)) (fun _ h_ => h_.1))) hb); replace HO368 := Aside0.mk (Kd.R_below (by (with_reducible repeat (first | apply Kd.R_alloc | apply Kd.R_drewN | apply Kd.R_drew)); exact (Kd.R_mono (Kd.R_far (p := ⟨gb378, 6, none⟩) (Kd.R_far (p := ⟨gb378, 5, none⟩) (Kd.R_far (p := ⟨gb378, 4, none⟩) (Kd.R_far (p := ⟨gb378, 3, none⟩) (Kd.R_far (p := ⟨gb378, 2, none⟩) (Kd.R_far (p := ⟨gb378, 1, none⟩) (Kd.R_far (p := ⟨gb378, 0, none⟩) (Kd.R_types HO368.out BK378.out (by decide)) (fun _ hk => hk.2) (.int .i64 t362)) (fun _ hk => hk.2) (.slice Ao53 t363.length co53)) (fun _ hk => hk.2) (.slice Ao54 t366.length co54)) (fun _ hk => hk.2) (.slice Ao55 t369.length co55)) (fun _ hk => hk.2) (.slice Ao56 t372.length co56)) (fun _ hk => hk.2) (.string t375)) (fun _ hk => hk.2) (.string t376)) (fun _ h_ => h_.1))) hb); replace HO371 := Aside0.mk (Kd.R_below (by (with_reducible repeat (first | apply Kd.R_alloc | apply Kd.R_drewN | apply Kd.R_drew)); exact (Kd.R_mono (Kd.R_far (p := ⟨gb378, 6, none⟩) (Kd.R_far (p := ⟨gb378, 5, none⟩) (Kd.R_far (p := ⟨gb378, 4, none⟩) (Kd.R_far (p := ⟨gb378, 3, none⟩) (Kd.R_far (p := ⟨gb378, 2, none⟩) (Kd.R_far (p := ⟨gb378, 1, none⟩) (Kd.R_far (p := ⟨gb378, 0, none⟩) (Kd.R_types HO371.out BK378.out (by decide)) (fun _ hk => hk.2) (.int .i64 t362)) (fun _ hk => hk.2) (.slice Ao53 t363.length co53)) (fun _ hk => hk.2) (.slice Ao54 t366.length co54)) (fun _ hk => hk.2) (.slice Ao55 t369.length co55)) (fun _ hk => hk.2) (.slice Ao56 t372.length co56)) (fun _ hk => hk.2) (.string t375)) (fun _ hk => hk.2) (.string t376)) (fun _ h_ => h_.1))) hb); replace HO374 := Aside0.mk (Kd.R_below (by (with_reducible repeat (first | apply Kd.R_alloc | apply Kd.R_drewN | apply Kd.R_drew)); exact (Kd.R_mono (Kd.R_far (p := ⟨gb378, 6, none⟩) (Kd.R_far (p := ⟨gb378, 5, none⟩) (Kd.R_far (p := ⟨gb378, 4, none⟩) (Kd.R_far (p := ⟨gb378, 3, none⟩) (Kd.R_far (p := ⟨gb378, 2, none⟩) (Kd.R_far (p := ⟨gb378, 1, none⟩) (Kd.R_far (p := ⟨gb378, 0, none⟩) (Kd.R_types HO374.out BK378.out (by decide)) (fun _ hk => hk.2) (.int .i64 t362)) (fun _ hk => hk.2) (.slice Ao53 t363.length co53)) (fun _ hk => hk.2) (.slice Ao54 t366.length co54)) (fun _ hk => hk.2) (.slice Ao55 t369.length co55)) (fun _ hk => hk.2) (.slice Ao56 t372.length co56)) (fun _ hk => hk.2) (.string t375)) (fun _ hk => hk.2) (.string t376)) (fun _ h_ => h_.1))) hb); replace BK337 := bkb_ BK337 hb; replace BK354 := bkb_ BK354 hb; replace BK378 := Aside0.mk (blk_below (g := gb378) (o := .cells #[.int .i64 t362, .slice Ao53 t363.length co53, .slice Ao54 t366.length co54, .slice Ao55 t369.length co55, .slice Ao56 t372.length co56, .string t375, .string t376] 31 (0, 0)) (by (with_reducible repeat (first | refine blk_drewN ?_ _ | refine blk_drew ?_ | refine blk_alloc ?_ _)); refine blk_put (cs := #[.int .i64 t362, .slice Ao53 t363.length co53, .slice Ao54 t366.length co54, .slice Ao55 t369.length co55, .slice Ao56 t372.length co56, .string t375, .string (⟨#[]⟩ : ByteArray)]) ?_ 6 _ rfl; (with_reducible repeat (first | refine blk_drewN ?_ _ | refine blk_drew ?_ | refine blk_alloc ?_ _)); refine blk_put (cs := #[.int .i64 t362, .slice Ao53 t363.length co53, .slice Ao54 t366.length co54, .slice Ao55 t369.length co55, .slice Ao56 t372.length co56, .string (⟨#[]⟩ : ByteArray), .string (⟨#[]⟩ : ByteArray)]) ?_ 5 _ rfl; (with_reducible repeat (first | refine blk_drewN ?_ _ | refine blk_drew ?_ | refine blk_alloc ?_ _)); refine blk_put (cs := #[.int .i64 t362, .slice Ao53 t363.length co53, .slice Ao54 t366.length co54, .slice Ao55 t369.length co55, .slice none 0 0, .string (⟨#[]⟩ : ByteArray), .string (⟨#[]⟩ : ByteArray)]) ?_ 4 _ rfl; (with_reducible repeat (first | refine blk_drewN ?_ _ | refine blk_drew ?_ | refine blk_alloc ?_ _)); refine blk_put (cs := #[.int .i64 t362, .slice Ao53 t363.length co53, .slice Ao54 t366.length co54, .slice none 0 0, .slice none 0 0, .string (⟨#[]⟩ : ByteArray), .string (⟨#[]⟩ : ByteArray)]) ?_ 3 _ rfl; (with_reducible repeat (first | refine blk_drewN ?_ _ | refine blk_drew ?_ | refine blk_alloc ?_ _)); refine blk_put (cs := #[.int .i64 t362, .slice Ao53 t363.length co53, .slice none 0 0, .slice none 0 0, .slice none 0 0, .string (⟨#[]⟩ : ByteArray), .string (⟨#[]⟩ : ByteArray)]) ?_ 2 _ rfl; (with_reducible repeat (first | refine blk_drewN ?_ _ | refine blk_drew ?_ | refine blk_alloc ?_ _)); refine blk_put (cs := #[.int .i64 t362, .slice none 0 0, .slice none 0 0, .slice none 0 0, .slice none 0 0, .string (⟨#[]⟩ : ByteArray), .string (⟨#[]⟩ : ByteArray)]) ?_ 1 _ rfl; (with_reducible repeat (first | refine blk_drewN ?_ _ | refine blk_drew ?_ | refine blk_alloc ?_ _)); refine blk_put (cs := #[.int .i64 0, .slice none 0 0, .slice none 0 0, .slice none 0 0, .slice none 0 0, .string (⟨#[]⟩ : ByteArray), .string (⟨#[]⟩ : ByteArray)]) ?_ 0 _ rfl; (with_reducible repeat (first | refine blk_drewN ?_ _ | refine blk_drew ?_ | refine blk_alloc ?_ _)); exact BK378.out) hb); replace HB := bst_ hb; (try clear hb); (try clear hb2); (try clear hk); (try clear hi)))
                  go_meet
                  case rel => exact ⟨_, ((t377 != t336)), (by first | rfl | (simp; done) | (simp [*]; done)), H', ⟨by have := HJ4.out; first | omega | exact Nat.le_refl _⟩, ⟨by (with_reducible repeat (first | apply Kd.R_alloc | apply Kd.R_drewN | apply Kd.R_drew)); exact HO_338001.out⟩, ⟨by (with_reducible repeat (first | apply Kd.R_alloc | apply Kd.R_drewN | apply Kd.R_drew)); exact HO_338002.out⟩, ⟨by (with_reducible repeat (first | apply Kd.R_alloc | apply Kd.R_drewN | apply Kd.R_drew)); exact HO_338003.out⟩, ⟨by (with_reducible repeat (first | apply Kd.R_alloc | apply Kd.R_drewN | apply Kd.R_drew)); exact HO_338004.out⟩, ⟨by (with_reducible repeat (first | apply Kd.R_alloc | apply Kd.R_drewN | apply Kd.R_drew)); exact HO_355001.out⟩, ⟨by (with_reducible repeat (first | apply Kd.R_alloc | apply Kd.R_drewN | apply Kd.R_drew)); exact HO_355002.out⟩, ⟨by (with_reducible repeat (first | apply Kd.R_alloc | apply Kd.R_drewN | apply Kd.R_drew)); exact HO_355003.out⟩, ⟨by (with_reducible repeat (first | apply Kd.R_alloc | apply Kd.R_drewN | apply Kd.R_drew)); exact HO_355004.out⟩, ⟨by (with_reducible repeat (first | apply Kd.R_alloc | apply Kd.R_drewN | apply Kd.R_drew)); exact Kd.R_mono HO365.out (fun _ hk => ⟨hk.1.2, hk.2⟩)⟩, ⟨by (with_reducible repeat (first | apply Kd.R_alloc | apply Kd.R_drewN | apply Kd.R_drew)); exact Kd.R_mono HO368.out (fun _ hk => ⟨hk.1.2, hk.2⟩)⟩, ⟨by (with_reducible repeat (first | apply Kd.R_alloc | apply Kd.R_drewN | apply Kd.R_drew)); exact Kd.R_mono HO371.out (fun _ hk => ⟨hk.1.2, hk.2⟩)⟩, ⟨by (with_reducible repeat (first | apply Kd.R_alloc | apply Kd.R_drewN | apply Kd.R_drew)); exact Kd.R_mono HO374.out (fun _ hk => ⟨hk.1.2, hk.2⟩)⟩, ⟨by (with_reducible repeat (first | refine blk_drewN ?_ _ | refine blk_drew ?_ | refine blk_alloc ?_ _)); exact BK337.out⟩, ⟨by (with_reducible repeat (first | refine blk_drewN ?_ _ | refine blk_drew ?_ | refine blk_alloc ?_ _)); exact BK354.out⟩, ⟨by (with_reducible repeat (first | refine blk_drewN ?_ _ | refine blk_drew ?_ | refine blk_alloc ?_ _)); exact BK378.out⟩, ⟨bwl_⟩⟩
                · rw [if_neg c58] at H
                  exact absurd H (by simp)
              case rest =>
                clear HC42
                try clear c2
                try clear c2b0
                try clear c2b1
                try clear c22
                try clear c31
                try clear c34
                try clear c34b0
                try clear c40
                try clear c40b0
                try clear c40b1
                try clear c58
                try clear hcz16_0
                try clear hcz16_1
                try clear hcz16_2
                try clear hcz16_3
                try clear hcz16_4
                try clear hcz16_5
                try clear hcz16_6
                try clear hcz24_0
                try clear hcz24_1
                try clear hcz24_2
                try clear hcz24_3
                try clear hcz24_4
                try clear hcz24_5
                try clear hcz24_6
                try clear hcz25_0
                try clear hcz25_1
                try clear hcz25_2
                try clear hcz25_3
                try clear hcz25_4
                try clear hcz25_5
                try clear hcz25_6
                try clear hcz28_0
                try clear hcz28_1
                try clear hcz28_2
                try clear hcz28_3
                try clear hcz28_4
                try clear hcz28_5
                try clear hcz28_6
                try clear hcz29_0
                try clear hcz29_1
                try clear hcz29_2
                try clear hcz29_3
                try clear hcz29_4
                try clear hcz29_5
                try clear hcz29_6
                try clear hcz36_0
                try clear hcz36_1
                try clear hcz36_2
                try clear hcz36_3
                try clear hcz36_4
                try clear hcz36_5
                try clear hcz36_6
                try clear hcz38_0
                try clear hcz38_1
                try clear hcz38_2
                try clear hcz38_3
                try clear hcz38_4
                try clear hcz38_5
                try clear hcz38_6
                try clear hcz44_0
                try clear hcz44_1
                try clear hcz44_2
                try clear hcz44_3
                try clear hcz44_4
                try clear hcz44_5
                try clear hcz44_6
                try clear hcz46_0
                try clear hcz46_1
                try clear hcz46_2
                try clear hcz46_3
                try clear hcz46_4
                try clear hcz46_5
                try clear hcz46_6
                try clear hcz52_0
                try clear hcz52_1
                try clear hcz52_2
                try clear hcz52_3
                try clear hcz52_4
                try clear hcz52_5
                try clear hcz52_6
                try clear hcz61_0
                try clear hcz61_1
                try clear hcz61_2
                try clear hcz61_3
                try clear hcz61_4
                try clear hcz61_5
                try clear hcz61_6
                try clear hcz63_0
                try clear hcz63_1
                try clear hcz63_2
                try clear hcz63_3
                try clear hcz63_4
                try clear hcz63_5
                try clear hcz63_6
                try clear hcz67_0
                try clear hcz67_1
                try clear hcz67_2
                try clear hcz67_3
                try clear hcz67_4
                try clear hcz67_5
                try clear hcz67_6
                try clear hcz69_0
                try clear hcz69_1
                try clear hcz69_2
                try clear hcz69_3
                try clear hcz69_4
                try clear hcz69_5
                try clear hcz69_6
                try clear hcz8_0
                try clear hcz8_1
                try clear hcz8_2
                try clear hcz8_3
                try clear hcz8_4
                try clear hcz8_5
                try clear hcz8_6
                try clear hfz16_0
                try clear hfz16_1
                try clear hfz16_2
                try clear hfz16_3
                try clear hfz16_4
                try clear hfz16_5
                try clear hfz16_6
                try clear hfz24_0
                try clear hfz24_1
                try clear hfz24_2
                try clear hfz24_3
                try clear hfz24_4
                try clear hfz24_5
                try clear hfz24_6
                try clear hfz25_0
                try clear hfz25_1
                try clear hfz25_2
                try clear hfz25_3
                try clear hfz25_4
                try clear hfz25_5
                try clear hfz25_6
                try clear hfz28_0
                try clear hfz28_1
                try clear hfz28_2
                try clear hfz28_3
                try clear hfz28_4
                try clear hfz28_5
                try clear hfz28_6
                try clear hfz29_0
                try clear hfz29_1
                try clear hfz29_2
                try clear hfz29_3
                try clear hfz29_4
                try clear hfz29_5
                try clear hfz29_6
                try clear hfz36_0
                try clear hfz36_1
                try clear hfz36_2
                try clear hfz36_3
                try clear hfz36_4
                try clear hfz36_5
                try clear hfz36_6
                try clear hfz38_0
                try clear hfz38_1
                try clear hfz38_2
                try clear hfz38_3
                try clear hfz38_4
                try clear hfz38_5
                try clear hfz38_6
                try clear hfz44_0
                try clear hfz44_1
                try clear hfz44_2
                try clear hfz44_3
                try clear hfz44_4
                try clear hfz44_5
                try clear hfz44_6
                try clear hfz46_0
                try clear hfz46_1
                try clear hfz46_2
                try clear hfz46_3
                try clear hfz46_4
                try clear hfz46_5
                try clear hfz46_6
                try clear hfz52_0
                try clear hfz52_1
                try clear hfz52_2
                try clear hfz52_3
                try clear hfz52_4
                try clear hfz52_5
                try clear hfz52_6
                try clear hfz61_0
                try clear hfz61_1
                try clear hfz61_2
                try clear hfz61_3
                try clear hfz61_4
                try clear hfz61_5
                try clear hfz61_6
                try clear hfz63_0
                try clear hfz63_1
                try clear hfz63_2
                try clear hfz63_3
                try clear hfz63_4
                try clear hfz63_5
                try clear hfz63_6
                try clear hfz67_0
                try clear hfz67_1
                try clear hfz67_2
                try clear hfz67_3
                try clear hfz67_4
                try clear hfz67_5
                try clear hfz67_6
                try clear hfz69_0
                try clear hfz69_1
                try clear hfz69_2
                try clear hfz69_3
                try clear hfz69_4
                try clear hfz69_5
                try clear hfz69_6
                try clear hfz8_0
                try clear hfz8_1
                try clear hfz8_2
                try clear hfz8_3
                try clear hfz8_4
                try clear hfz8_5
                try clear hfz8_6
                obtain ⟨kq, x57_41, rfl, HA, HJ41, HO_338001, HO_338002, HO_338003, HO_338004, HO_355001, HO_355002, HO_355003, HO_355004, HO_379001, HO_379002, HO_379003, HO_379004, BK337, BK354, BK378, HB⟩ := hcut
                have hl355001_41 := (Kd.R_reads' HO_355001.out).1
                rw [hl355001_41] at HO_355001
                (try simp only [hl355001_41])
                (try simp only [hl355001_41] at BK337)
                (try simp only [hl355001_41] at BK354)
                (try simp only [hl355001_41] at BK378)
                (try simp only [hl355001_41] at HO_338001)
                (try simp only [hl355001_41] at HO_338002)
                (try simp only [hl355001_41] at HO_338003)
                (try simp only [hl355001_41] at HO_338004)
                (try simp only [hl355001_41] at HO_355002)
                (try simp only [hl355001_41] at HO_355003)
                (try simp only [hl355001_41] at HO_355004)
                (try simp only [hl355001_41] at HO_379001)
                (try simp only [hl355001_41] at HO_379002)
                (try simp only [hl355001_41] at HO_379003)
                (try simp only [hl355001_41] at HO_379004)
                have hl355002_41 := (Kd.R_reads' HO_355002.out).1
                rw [hl355002_41] at HO_355002
                (try simp only [hl355002_41])
                (try simp only [hl355002_41] at BK337)
                (try simp only [hl355002_41] at BK354)
                (try simp only [hl355002_41] at BK378)
                (try simp only [hl355002_41] at HO_338001)
                (try simp only [hl355002_41] at HO_338002)
                (try simp only [hl355002_41] at HO_338003)
                (try simp only [hl355002_41] at HO_338004)
                (try simp only [hl355002_41] at HO_355001)
                (try simp only [hl355002_41] at HO_355003)
                (try simp only [hl355002_41] at HO_355004)
                (try simp only [hl355002_41] at HO_379001)
                (try simp only [hl355002_41] at HO_379002)
                (try simp only [hl355002_41] at HO_379003)
                (try simp only [hl355002_41] at HO_379004)
                have hl355003_41 := (Kd.R_reads' HO_355003.out).1
                rw [hl355003_41] at HO_355003
                (try simp only [hl355003_41])
                (try simp only [hl355003_41] at BK337)
                (try simp only [hl355003_41] at BK354)
                (try simp only [hl355003_41] at BK378)
                (try simp only [hl355003_41] at HO_338001)
                (try simp only [hl355003_41] at HO_338002)
                (try simp only [hl355003_41] at HO_338003)
                (try simp only [hl355003_41] at HO_338004)
                (try simp only [hl355003_41] at HO_355001)
                (try simp only [hl355003_41] at HO_355002)
                (try simp only [hl355003_41] at HO_355004)
                (try simp only [hl355003_41] at HO_379001)
                (try simp only [hl355003_41] at HO_379002)
                (try simp only [hl355003_41] at HO_379003)
                (try simp only [hl355003_41] at HO_379004)
                have hl355004_41 := (Kd.R_reads' HO_355004.out).1
                rw [hl355004_41] at HO_355004
                (try simp only [hl355004_41])
                (try simp only [hl355004_41] at BK337)
                (try simp only [hl355004_41] at BK354)
                (try simp only [hl355004_41] at BK378)
                (try simp only [hl355004_41] at HO_338001)
                (try simp only [hl355004_41] at HO_338002)
                (try simp only [hl355004_41] at HO_338003)
                (try simp only [hl355004_41] at HO_338004)
                (try simp only [hl355004_41] at HO_355001)
                (try simp only [hl355004_41] at HO_355002)
                (try simp only [hl355004_41] at HO_355003)
                (try simp only [hl355004_41] at HO_379001)
                (try simp only [hl355004_41] at HO_379002)
                (try simp only [hl355004_41] at HO_379003)
                (try simp only [hl355004_41] at HO_379004)
                cases kq with
                | zero => exact absurd HA.out (by simp [laws_FnExactNewDesk.j1])
                | succ kj41 =>
                  have H := HA.out
                  clear HA
                  simp only [laws_FnExactNewDesk.j1] at H
                  by_cases c71 : x57_41 = true
                  · rw [if_pos c71] at H
                    exact absurd H (by simp)
                  · replace c71 := Bool.eq_false_iff.mpr c71
                    subst c71
                    have H1 : ((laws_heldDesk.f kj41 t338 t357 t358 t359 t360 t351 t352 1).bind fun t380 => (if t380 < 0 then (none) else (if t380 = t356 then (some true) else (none)))) = some r := by rw [if_neg (show ¬ (false = true) by decide)] at H; exact H
                    clear H
                    have H := H1
                    clear H1
                    replace H := Option.bind_eq_some_iff.mp H
                    obtain ⟨t380, A720, H⟩ := H
                    replace H : (if t380 < 0 then (none) else (if t380 = t356 then (some true) else (none))) = some r := H
                    have A72 := Aside0.mk A720
                    clear A720
                    by_cases c73 : t380 < 0
                    · rw [if_pos c73] at H
                      exact absurd H (by simp)
                    · rw [if_neg c73] at H
                      have c73b0 : decide (t380 < 0) = false := decide_eq_false c73
                      clear c73
                      by_cases c78 : t380 = t356
                      · rw [if_pos c78] at H
                        have c78b0 : (t380 == t356) = true := beq_iff_eq.mpr c78
                        have c78b1 : (t380 != t356) = false := bne_eq_false_iff_eq.mpr c78
                        clear c78
                        obtain rfl := Option.some.inj H
                        have hnb79 := NB354_337.out
                        have hnc79 := NB337_354.out
                        have hnb80 := NB354_378.out
                        have hnc80 := NB378_354.out
                        have hcz81_0 : wc.cell? ⟨gb354, 0, none⟩ = some (.int .i64 t338) := (blk_cell BK354.out 0).trans rfl
                        have hcz81_1 : wc.cell? ⟨gb354, 1, none⟩ = some (.slice Ao17 t357.length co17) := (blk_cell BK354.out 1).trans rfl
                        have hcz81_2 : wc.cell? ⟨gb354, 2, none⟩ = some (.slice Ao18 t358.length co18) := (blk_cell BK354.out 2).trans rfl
                        have hcz81_3 : wc.cell? ⟨gb354, 3, none⟩ = some (.slice Ao19 t359.length co19) := (blk_cell BK354.out 3).trans rfl
                        have hcz81_4 : wc.cell? ⟨gb354, 4, none⟩ = some (.slice Ao20 t360.length co20) := (blk_cell BK354.out 4).trans rfl
                        have hcz81_5 : wc.cell? ⟨gb354, 5, none⟩ = some (.string t351) := (blk_cell BK354.out 5).trans rfl
                        have hcz81_6 : wc.cell? ⟨gb354, 6, none⟩ = some (.string t352) := (blk_cell BK354.out 6).trans rfl
                        have hfz81_0 := blk_frozen BK354.out 0
                        have hfz81_1 := blk_frozen BK354.out 1
                        have hfz81_2 := blk_frozen BK354.out 2
                        have hfz81_3 := blk_frozen BK354.out 3
                        have hfz81_4 := blk_frozen BK354.out 4
                        have hfz81_5 := blk_frozen BK354.out 5
                        have hfz81_6 := blk_frozen BK354.out 6
                        go_wp2_with (first | ((with_reducible refine gate_callee (f := 8) rfl ?_); refine goesL_ (some 60) rfl rfl Tryd.func8 (by kernel_rfl) rfl #[.agg #[.int .i64 t338, .slice Ao17 t357.length co17, .slice Ao18 t358.length co18, .slice Ao19 t359.length co19, .slice Ao20 t360.length co20, .string t351, .string t352], .int .i64 1] rfl (by (try simp only [List.map_toArray, List.map_cons, List.map_nil]); first | done | rfl | (simp only [List.length_drop, List.length_take]; rfl)) ?_; (with_reducible refine (laws_heldDesk.calls kj41 t338 _ _ t357 _ _ t358 _ _ t359 _ _ t360 t351 t352 1 t380 _ ?side1 ?side2 ?side3 ?side4 ?side5 ?side6 ?side7 ?side8 A72.out).mono ?_); (case side1 => repeat (first | exact (Kd.R_reads' HO_355001.out).2.2 | (with_reducible refine Kd.C_alloc ?_ _) | (with_reducible refine Kd.C_drewN ?_ _) | (with_reducible refine Kd.C_drew ?_))); (case side2 => exact (Kd.R_reads' HO_355001.out).2.1); (case side3 => repeat (first | exact (Kd.R_reads' HO_355002.out).2.2 | (with_reducible refine Kd.C_alloc ?_ _) | (with_reducible refine Kd.C_drewN ?_ _) | (with_reducible refine Kd.C_drew ?_))); (case side4 => exact (Kd.R_reads' HO_355002.out).2.1); (case side5 => repeat (first | exact (Kd.R_reads' HO_355003.out).2.2 | (with_reducible refine Kd.C_alloc ?_ _) | (with_reducible refine Kd.C_drewN ?_ _) | (with_reducible refine Kd.C_drew ?_))); (case side6 => exact (Kd.R_reads' HO_355003.out).2.1); (case side7 => repeat (first | exact (Kd.R_reads' HO_355004.out).2.2 | (with_reducible refine Kd.C_alloc ?_ _) | (with_reducible refine Kd.C_drewN ?_ _) | (with_reducible refine Kd.C_drew ?_))); (case side8 => exact (Kd.R_reads' HO_355004.out).2.1); rintro e w82 ⟨rfl, hb⟩; refine ⟨_, rfl, ?_⟩; replace HO_338001 := Aside0.mk (Kd.R_below (by (with_reducible repeat (first | apply Kd.R_alloc | apply Kd.R_drewN | apply Kd.R_drew)); exact HO_338001.out) hb); replace HO_338002 := Aside0.mk (Kd.R_below (by (with_reducible repeat (first | apply Kd.R_alloc | apply Kd.R_drewN | apply Kd.R_drew)); exact HO_338002.out) hb); replace HO_338003 := Aside0.mk (Kd.R_below (by (with_reducible repeat (first | apply Kd.R_alloc | apply Kd.R_drewN | apply Kd.R_drew)); exact HO_338003.out) hb); replace HO_338004 := Aside0.mk (Kd.R_below (by (with_reducible repeat (first | apply Kd.R_alloc | apply Kd.R_drewN | apply Kd.R_drew)); exact HO_338004.out) hb); replace HO_355001 := Aside0.mk (Kd.R_below (by (with_reducible repeat (first | apply Kd.R_alloc | apply Kd.R_drewN | apply Kd.R_drew)); exact HO_355001.out) hb); replace HO_355002 := Aside0.mk (Kd.R_below (by (with_reducible repeat (first | apply Kd.R_alloc | apply Kd.R_drewN | apply Kd.R_drew)); exact HO_355002.out) hb); replace HO_355003 := Aside0.mk (Kd.R_below (by (with_reducible repeat (first | apply Kd.R_alloc | apply Kd.R_drewN | apply Kd.R_drew)); exact HO_355003.out) hb); replace HO_355004 := Aside0.mk (Kd.R_below (by (with_reducible repeat (first | apply Kd.R_alloc | apply Kd.R_drewN | apply Kd.R_drew)); exact HO_355004.out) hb); replace HO_379001 := Aside0.mk (Kd.R_below (by (with_reducible repeat (first | apply Kd.R_alloc | apply Kd.R_drewN | apply Kd.R_drew)); exact HO_379001.out) hb); replace HO_379002 := Aside0.mk (Kd.R_below (by (with_reducible repeat (first | apply Kd.R_alloc | apply Kd.R_drewN | apply Kd.R_drew)); exact HO_379002.out) hb); replace HO_379003 := Aside0.mk (Kd.R_below (by (with_reducible repeat (first | apply Kd.R_alloc | apply Kd.R_drewN | apply Kd.R_drew)); exact HO_379003.out) hb); replace HO_379004 := Aside0.mk (Kd.R_below (by (with_reducible repeat (first | apply Kd.R_alloc | apply Kd.R_drewN | apply Kd.R_drew)); exact HO_379004.out) hb); replace BK337 := bkb_ BK337 hb; replace BK354 := bkb_ BK354 hb; replace BK378 := bkb_ BK378 hb; replace HB := bst_ hb; (try clear hb); (try clear hb2); (try clear hk); (try clear hi)))
                        go_ret
                        exact ⟨by first | rfl | (simp [errW_none, errW_some] <;> rfl) | (simp [*, errW_none, errW_some] <;> rfl), bwl_⟩
                      · rw [if_neg c78] at H
                        exact absurd H (by simp)
            · rw [if_neg c40] at H
              exact absurd H (by simp)
end Go.Proofs.YtihiodhlmnhfdaaDoor.QFnExactNewDesk
