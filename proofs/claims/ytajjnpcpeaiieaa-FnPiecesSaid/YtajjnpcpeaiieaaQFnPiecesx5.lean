/- Functions and contracts of one law, printed by this session's own program (contracts by hand among them). -/
import Derived.Test.YtajjnpcpeaiieaaQFnPiecesx0
import Derived.Test.YtajjnpcpeaiieaaQFnPiecesx1
import Derived.Test.YtajjnpcpeaiieaaQFnPiecesx3
import Derived.Test.YtajjnpcpeaiieaaQFnPiecesx4
namespace Go.Proofs.Ytajjnpcpeaiieaa.QFnPieces
open Go.RowKit Go.Proofs.YtajjnpcpeaiieaaW.PrintWords Go.Proofs.YtajjnpcpeaiieaaW.PrintLast Go.Proofs.YtajjnpcpeaiieaaW.PrintMore
attribute [local go_sem] max2_int min2_int max_two min_two max_three min_three max_four min_four   -- for this text's walks alone
set_option linter.unusedVariables false
set_option linter.unusedSimpArgs false

/-! ### laws_FnPieces: function 12 -/
mutual
def laws_FnPieces.j0 : Nat → List Int → List (S55) → Int → Int → Int → Bool → Option (Bool)
  | 0, _, _, _, _, _, _ => none
  | k + 1, x1, x5, x6, x7, x12, x115 => if x115 = true then (some false) else ((impl_CheaperMore.f k x5 x7 x6).bind fun bt193 => (if bt193.2 = 0 then ((impl_PriceOfPieces.f k x5 x7 bt193.1).bind fun bt195 => (if bt193.1 ≤ x6 then (laws_FnPieces.j1 k x1 x5 x6 x7 x12 bt193.1 true) else (if bt193.1 > 10000 then (laws_FnPieces.j1 k x1 x5 x6 x7 x12 bt193.1 true) else (if bt195.2 = 0 then (laws_FnPieces.j1 k x1 x5 x6 x7 x12 bt193.1 (decide (bt195.1 ≥ x12))) else (laws_FnPieces.j1 k x1 x5 x6 x7 x12 bt193.1 true))))) else (if bt193.2 = 3 then (laws_FnPieces.j2 k x1 x7) else (some false))))
def laws_FnPieces.j2 : Nat → List Int → Int → Option (Bool)
  | 0, _, _ => none
  | k + 1, x1, x7 => (laws_a2At.f x1 2 200).bind fun t199 => ((impl_RoundPrice.f x7 (wrap64 (1 + t199))).bind fun bt200 => ((laws_a2At.f x1 3 40).bind fun t202 => ((laws_a2At.f x1 4 60).bind fun t203 => ((impl_MakingPrice.f x7 t202 (wrap64 (10 * (wrap64 (1 + t199)))) t203).bind fun bt204 => (if bt200.2 = 0 then (if (wrap64 (1 + t199)) = 0 then (none) else (if (Int.tmod bt200.1 (wrap64 (1 + t199))) = 0 then (if bt200.1 ≥ x7 then (if (wrap64 (bt200.1 - x7)) < (wrap64 (1 + t199)) then (if bt204.2 = 0 then (if (wrap64 (100 * bt204.1)) ≥ (wrap64 ((wrap64 (x7 + (wrap64 ((wrap64 (t202 * 10)) * (wrap64 (1 + t199)))))) * (wrap64 (100 + t203)))) then (some (decide ((wrap64 (100 * (wrap64 (bt204.1 - 1)))) < (wrap64 ((wrap64 (x7 + (wrap64 ((wrap64 (t202 * 10)) * (wrap64 (1 + t199)))))) * (wrap64 (100 + t203))))))) else (some false)) else (some false)) else (some false)) else (some false)) else (some false))) else (some false))))))
def laws_FnPieces.j1 : Nat → List Int → List (S55) → Int → Int → Int → Int → Bool → Option (Bool)
  | 0, _, _, _, _, _, _, _ => none
  | k + 1, x1, x5, x6, x7, x12, x14, x147 => if x147 = true then (some false) else ((spec_PriceOfPieces.f k x5 x7 (wrap64 (x14 - 1))).bind fun bt197 => (if bt197.2 = 0 then (if (wrap64 (x14 - 1)) > x6 then (if bt197.1 < x12 then (some false) else (laws_FnPieces.j2 k x1 x7)) else (laws_FnPieces.j2 k x1 x7)) else (some false)))
end
def laws_FnPieces.f (k : Nat) (l0 : List Int) (l1 : List Int) : Option (Bool) := (laws_a2Long.f l0 l1).bind fun t181 => (if t181 = true then (some true) else ((spec_A2Tiers.f k l0).bind fun t182 => ((laws_a2At.f l1 0 60).bind fun t185 => ((laws_a2At.f l1 1 250).bind fun t186 => ((impl_DiscountFor.f k t182 (wrap64 (1 + t185))).bind fun bt187 => ((impl_DiscountFor.f k t182 (wrap64 ((wrap64 (1 + t185)) + 1))).bind fun bt189 => ((impl_PriceOfPieces.f k t182 (wrap64 (t186 * 40)) (wrap64 (1 + t185))).bind fun bt191 => (if bt187.2 = 0 then (if bt189.2 = 0 then (if bt187.1 < 0 then (laws_FnPieces.j0 k l1 t182 (wrap64 (1 + t185)) (wrap64 (t186 * 40)) bt191.1 true) else (if bt189.1 < bt187.1 then (laws_FnPieces.j0 k l1 t182 (wrap64 (1 + t185)) (wrap64 (t186 * 40)) bt191.1 true) else (if bt189.1 > 100 then (laws_FnPieces.j0 k l1 t182 (wrap64 (1 + t185)) (wrap64 (t186 * 40)) bt191.1 true) else (if bt191.2 = 0 then (if bt191.1 < 0 then (laws_FnPieces.j0 k l1 t182 (wrap64 (1 + t185)) (wrap64 (t186 * 40)) bt191.1 true) else (if bt191.1 > (wrap64 ((wrap64 (t186 * 40)) * (wrap64 (1 + t185)))) then (laws_FnPieces.j0 k l1 t182 (wrap64 (1 + t185)) (wrap64 (t186 * 40)) bt191.1 true) else (if (wrap64 (100 * bt191.1)) < (wrap64 ((wrap64 ((wrap64 (t186 * 40)) * (wrap64 (1 + t185)))) * (wrap64 (100 - bt187.1)))) then (laws_FnPieces.j0 k l1 t182 (wrap64 (1 + t185)) (wrap64 (t186 * 40)) bt191.1 true) else (laws_FnPieces.j0 k l1 t182 (wrap64 (1 + t185)) (wrap64 (t186 * 40)) bt191.1 (decide ((wrap64 (100 * (wrap64 (bt191.1 - 1)))) ≥ (wrap64 ((wrap64 ((wrap64 (t186 * 40)) * (wrap64 (1 + t185)))) * (wrap64 (100 - bt187.1)))))))))) else (laws_FnPieces.j0 k l1 t182 (wrap64 (1 + t185)) (wrap64 (t186 * 40)) bt191.1 true))))) else (laws_FnPieces.j0 k l1 t182 (wrap64 (1 + t185)) (wrap64 (t186 * 40)) bt191.1 true)) else (laws_FnPieces.j0 k l1 t182 (wrap64 (1 + t185)) (wrap64 (t186 * 40)) bt191.1 true)))))))))
theorem laws_FnPieces.mono_l : ∀ k, (∀ y0 y1 y2 y3 y4 y5, LeO (laws_FnPieces.j0 k y0 y1 y2 y3 y4 y5) (laws_FnPieces.j0 (k + 1) y0 y1 y2 y3 y4 y5)) ∧ (∀ y0 y1, LeO (laws_FnPieces.j2 k y0 y1) (laws_FnPieces.j2 (k + 1) y0 y1)) ∧ (∀ y0 y1 y2 y3 y4 y5 y6, LeO (laws_FnPieces.j1 k y0 y1 y2 y3 y4 y5 y6) (laws_FnPieces.j1 (k + 1) y0 y1 y2 y3 y4 y5 y6))
  | 0 => ⟨fun _ _ _ _ _ _ r h => by simp [laws_FnPieces.j0] at h, fun _ _ r h => by simp [laws_FnPieces.j2] at h, fun _ _ _ _ _ _ _ r h => by simp [laws_FnPieces.j1] at h⟩
  | k + 1 => by
    obtain ⟨ih0, ih1, ih2⟩ := laws_FnPieces.mono_l k
    refine ⟨?_, ?_, ?_⟩
    · intro y0 y1 y2 y3 y4 y5
      unfold laws_FnPieces.j0
      repeat' first
      | (with_reducible exact ih0 _ _ _ _ _ _)
      | (with_reducible exact ih1 _ _)
      | (with_reducible exact ih2 _ _ _ _ _ _ _)
      | (with_reducible exact impl_CheaperMore.mono _ _ _ _)
      | (with_reducible exact impl_DiscountFor.mono _ _ _)
      | (with_reducible exact impl_PriceOfPieces.mono _ _ _ _)
      | (with_reducible exact spec_A2Tiers.mono _ _)
      | (with_reducible exact spec_PriceOfPieces.mono _ _ _ _)
      | (with_reducible exact LeO.refl _)
      | (with_reducible exact LeO.none _)
      | (with_reducible refine LeO.ite ?_ ?_)
      | (with_reducible refine LeO.bind ?_ (fun _ => ?_))
      | exact ih0 _ _ _ _ _ _
      | exact ih1 _ _
      | exact ih2 _ _ _ _ _ _ _
      | exact impl_CheaperMore.mono _ _ _ _
      | exact impl_DiscountFor.mono _ _ _
      | exact impl_PriceOfPieces.mono _ _ _ _
      | exact spec_A2Tiers.mono _ _
      | exact spec_PriceOfPieces.mono _ _ _ _
      | exact LeO.none _
      | refine LeO.ite ?_ ?_
      | refine LeO.bind ?_ (fun _ => ?_)
    · intro y0 y1
      unfold laws_FnPieces.j2
      repeat' first
      | (with_reducible exact ih0 _ _ _ _ _ _)
      | (with_reducible exact ih1 _ _)
      | (with_reducible exact ih2 _ _ _ _ _ _ _)
      | (with_reducible exact impl_CheaperMore.mono _ _ _ _)
      | (with_reducible exact impl_DiscountFor.mono _ _ _)
      | (with_reducible exact impl_PriceOfPieces.mono _ _ _ _)
      | (with_reducible exact spec_A2Tiers.mono _ _)
      | (with_reducible exact spec_PriceOfPieces.mono _ _ _ _)
      | (with_reducible exact LeO.refl _)
      | (with_reducible exact LeO.none _)
      | (with_reducible refine LeO.ite ?_ ?_)
      | (with_reducible refine LeO.bind ?_ (fun _ => ?_))
      | exact ih0 _ _ _ _ _ _
      | exact ih1 _ _
      | exact ih2 _ _ _ _ _ _ _
      | exact impl_CheaperMore.mono _ _ _ _
      | exact impl_DiscountFor.mono _ _ _
      | exact impl_PriceOfPieces.mono _ _ _ _
      | exact spec_A2Tiers.mono _ _
      | exact spec_PriceOfPieces.mono _ _ _ _
      | exact LeO.none _
      | refine LeO.ite ?_ ?_
      | refine LeO.bind ?_ (fun _ => ?_)
    · intro y0 y1 y2 y3 y4 y5 y6
      unfold laws_FnPieces.j1
      repeat' first
      | (with_reducible exact ih0 _ _ _ _ _ _)
      | (with_reducible exact ih1 _ _)
      | (with_reducible exact ih2 _ _ _ _ _ _ _)
      | (with_reducible exact impl_CheaperMore.mono _ _ _ _)
      | (with_reducible exact impl_DiscountFor.mono _ _ _)
      | (with_reducible exact impl_PriceOfPieces.mono _ _ _ _)
      | (with_reducible exact spec_A2Tiers.mono _ _)
      | (with_reducible exact spec_PriceOfPieces.mono _ _ _ _)
      | (with_reducible exact LeO.refl _)
      | (with_reducible exact LeO.none _)
      | (with_reducible refine LeO.ite ?_ ?_)
      | (with_reducible refine LeO.bind ?_ (fun _ => ?_))
      | exact ih0 _ _ _ _ _ _
      | exact ih1 _ _
      | exact ih2 _ _ _ _ _ _ _
      | exact impl_CheaperMore.mono _ _ _ _
      | exact impl_DiscountFor.mono _ _ _
      | exact impl_PriceOfPieces.mono _ _ _ _
      | exact spec_A2Tiers.mono _ _
      | exact spec_PriceOfPieces.mono _ _ _ _
      | exact LeO.none _
      | refine LeO.ite ?_ ?_
      | refine LeO.bind ?_ (fun _ => ?_)
theorem laws_FnPieces.mono : ∀ a0 a1 k, LeO (laws_FnPieces.f k a0 a1) (laws_FnPieces.f (k + 1) a0 a1) := by
  intro a0 a1 k
  obtain ⟨ih0, ih1, ih2⟩ := laws_FnPieces.mono_l k
  unfold laws_FnPieces.f
  repeat' first
      | (with_reducible exact ih0 _ _ _ _ _ _)
      | (with_reducible exact ih1 _ _)
      | (with_reducible exact ih2 _ _ _ _ _ _ _)
      | (with_reducible exact impl_CheaperMore.mono _ _ _ _)
      | (with_reducible exact impl_DiscountFor.mono _ _ _)
      | (with_reducible exact impl_PriceOfPieces.mono _ _ _ _)
      | (with_reducible exact spec_A2Tiers.mono _ _)
      | (with_reducible exact spec_PriceOfPieces.mono _ _ _ _)
      | (with_reducible exact LeO.refl _)
      | (with_reducible exact LeO.none _)
      | (with_reducible refine LeO.ite ?_ ?_)
      | (with_reducible refine LeO.bind ?_ (fun _ => ?_))
      | exact ih0 _ _ _ _ _ _
      | exact ih1 _ _
      | exact ih2 _ _ _ _ _ _ _
      | exact impl_CheaperMore.mono _ _ _ _
      | exact impl_DiscountFor.mono _ _ _
      | exact impl_PriceOfPieces.mono _ _ _ _
      | exact spec_A2Tiers.mono _ _
      | exact spec_PriceOfPieces.mono _ _ _ _
      | exact LeO.none _
      | refine LeO.ite ?_ ?_
      | refine LeO.bind ?_ (fun _ => ?_)
set_option maxHeartbeats 8000000 in
set_option maxRecDepth 100000 in
theorem laws_FnPieces.calls (k : Nat) (A0 : Option Addr) (c0 : Nat) (l0 : List Int) (A1 : Option Addr) (c1 : Nat) (l1 : List Int) (r : Bool) (w : World) (hr0 : Kd.C (Kd.int .u8) w A0 l0.length l0) (hc0 : l0.length ≤ c0) (hr1 : Kd.C (Kd.int .u8) w A1 l1.length l1) (hc1 : l1.length ≤ c1) (h : laws_FnPieces.f k l0 l1 = some r) :
    Calls Try.prog 12 #[.slice A0 l0.length c0, .slice A1 l1.length c1] w fun e w' => e = .returned (.bool r) ∧ Below w.heap.size w w' := by
  have HR0 := Aside0.mk hr0
  have HC0 := Aside0.mk hc0
  clear hr0 hc0
  have HR1 := Aside0.mk hr1
  have HC1 := Aside0.mk hc1
  clear hr1 hc1
  have HB := Aside0.mk (Below.refl w.heap.size w)
  have H : ((laws_a2Long.f l0 l1).bind fun t181 => (if t181 = true then (some true) else ((spec_A2Tiers.f k l0).bind fun t182 => ((laws_a2At.f l1 0 60).bind fun t185 => ((laws_a2At.f l1 1 250).bind fun t186 => ((impl_DiscountFor.f k t182 (wrap64 (1 + t185))).bind fun bt187 => ((impl_DiscountFor.f k t182 (wrap64 ((wrap64 (1 + t185)) + 1))).bind fun bt189 => ((impl_PriceOfPieces.f k t182 (wrap64 (t186 * 40)) (wrap64 (1 + t185))).bind fun bt191 => (if bt187.2 = 0 then (if bt189.2 = 0 then (if bt187.1 < 0 then (laws_FnPieces.j0 k l1 t182 (wrap64 (1 + t185)) (wrap64 (t186 * 40)) bt191.1 true) else (if bt189.1 < bt187.1 then (laws_FnPieces.j0 k l1 t182 (wrap64 (1 + t185)) (wrap64 (t186 * 40)) bt191.1 true) else (if bt189.1 > 100 then (laws_FnPieces.j0 k l1 t182 (wrap64 (1 + t185)) (wrap64 (t186 * 40)) bt191.1 true) else (if bt191.2 = 0 then (if bt191.1 < 0 then (laws_FnPieces.j0 k l1 t182 (wrap64 (1 + t185)) (wrap64 (t186 * 40)) bt191.1 true) else (if bt191.1 > (wrap64 ((wrap64 (t186 * 40)) * (wrap64 (1 + t185)))) then (laws_FnPieces.j0 k l1 t182 (wrap64 (1 + t185)) (wrap64 (t186 * 40)) bt191.1 true) else (if (wrap64 (100 * bt191.1)) < (wrap64 ((wrap64 ((wrap64 (t186 * 40)) * (wrap64 (1 + t185)))) * (wrap64 (100 - bt187.1)))) then (laws_FnPieces.j0 k l1 t182 (wrap64 (1 + t185)) (wrap64 (t186 * 40)) bt191.1 true) else (laws_FnPieces.j0 k l1 t182 (wrap64 (1 + t185)) (wrap64 (t186 * 40)) bt191.1 (decide ((wrap64 (100 * (wrap64 (bt191.1 - 1)))) ≥ (wrap64 ((wrap64 ((wrap64 (t186 * 40)) * (wrap64 (1 + t185)))) * (wrap64 (100 - bt187.1)))))))))) else (laws_FnPieces.j0 k l1 t182 (wrap64 (1 + t185)) (wrap64 (t186 * 40)) bt191.1 true))))) else (laws_FnPieces.j0 k l1 t182 (wrap64 (1 + t185)) (wrap64 (t186 * 40)) bt191.1 true)) else (laws_FnPieces.j0 k l1 t182 (wrap64 (1 + t185)) (wrap64 (t186 * 40)) bt191.1 true)))))))))) = some r := h
  clear h
  replace H := Option.bind_eq_some_iff.mp H
  obtain ⟨t181, A30, H⟩ := H
  replace H : (if t181 = true then (some true) else ((spec_A2Tiers.f k l0).bind fun t182 => ((laws_a2At.f l1 0 60).bind fun t185 => ((laws_a2At.f l1 1 250).bind fun t186 => ((impl_DiscountFor.f k t182 (wrap64 (1 + t185))).bind fun bt187 => ((impl_DiscountFor.f k t182 (wrap64 ((wrap64 (1 + t185)) + 1))).bind fun bt189 => ((impl_PriceOfPieces.f k t182 (wrap64 (t186 * 40)) (wrap64 (1 + t185))).bind fun bt191 => (if bt187.2 = 0 then (if bt189.2 = 0 then (if bt187.1 < 0 then (laws_FnPieces.j0 k l1 t182 (wrap64 (1 + t185)) (wrap64 (t186 * 40)) bt191.1 true) else (if bt189.1 < bt187.1 then (laws_FnPieces.j0 k l1 t182 (wrap64 (1 + t185)) (wrap64 (t186 * 40)) bt191.1 true) else (if bt189.1 > 100 then (laws_FnPieces.j0 k l1 t182 (wrap64 (1 + t185)) (wrap64 (t186 * 40)) bt191.1 true) else (if bt191.2 = 0 then (if bt191.1 < 0 then (laws_FnPieces.j0 k l1 t182 (wrap64 (1 + t185)) (wrap64 (t186 * 40)) bt191.1 true) else (if bt191.1 > (wrap64 ((wrap64 (t186 * 40)) * (wrap64 (1 + t185)))) then (laws_FnPieces.j0 k l1 t182 (wrap64 (1 + t185)) (wrap64 (t186 * 40)) bt191.1 true) else (if (wrap64 (100 * bt191.1)) < (wrap64 ((wrap64 ((wrap64 (t186 * 40)) * (wrap64 (1 + t185)))) * (wrap64 (100 - bt187.1)))) then (laws_FnPieces.j0 k l1 t182 (wrap64 (1 + t185)) (wrap64 (t186 * 40)) bt191.1 true) else (laws_FnPieces.j0 k l1 t182 (wrap64 (1 + t185)) (wrap64 (t186 * 40)) bt191.1 (decide ((wrap64 (100 * (wrap64 (bt191.1 - 1)))) ≥ (wrap64 ((wrap64 ((wrap64 (t186 * 40)) * (wrap64 (1 + t185)))) * (wrap64 (100 - bt187.1)))))))))) else (laws_FnPieces.j0 k l1 t182 (wrap64 (1 + t185)) (wrap64 (t186 * 40)) bt191.1 true))))) else (laws_FnPieces.j0 k l1 t182 (wrap64 (1 + t185)) (wrap64 (t186 * 40)) bt191.1 true)) else (laws_FnPieces.j0 k l1 t182 (wrap64 (1 + t185)) (wrap64 (t186 * 40)) bt191.1 true))))))))) = some r := H
  have A3 := Aside0.mk A30
  clear A30
  by_cases c4 : t181 = true
  · subst c4
    have H1 : (some true) = some r := by rw [if_pos rfl] at H; exact H
    clear H
    have H := H1
    clear H1
    obtain rfl := Option.some.inj H
    go_enter Try.func12, Try.ntmps12
    go_wp2_with (first | ((with_reducible refine gate_callee (f := 38) rfl ?_); refine goesL_ (some 30) rfl rfl Try.func38 (by kernel_rfl) rfl #[.slice A0 l0.length c0, .slice A1 l1.length c1] rfl (by (try simp only [List.map_toArray, List.map_cons, List.map_nil]); first | done | rfl | (simp only [List.length_drop, List.length_take]; rfl)) ?_; (with_reducible refine (laws_a2Long.calls _ _ l0 _ _ l1 true _ ?side1 ?side2 ?side3 ?side4 A3.out).mono ?_); (case side1 => repeat (first | exact HR0.out | (with_reducible refine Kd.C_alloc ?_ _) | (with_reducible refine Kd.C_drewN ?_ _) | (with_reducible refine Kd.C_drew ?_))); (case side2 => exact HC0.out); (case side3 => repeat (first | exact HR1.out | (with_reducible refine Kd.C_alloc ?_ _) | (with_reducible refine Kd.C_drewN ?_ _) | (with_reducible refine Kd.C_drew ?_))); (case side4 => exact HC1.out); rintro e w' ⟨rfl, ⟨nd, rfl⟩⟩; refine ⟨_, rfl, ?_⟩))
    go_ret
    exact ⟨by first | rfl | (simp [errW_none, errW_some] <;> rfl) | (simp [*, errW_none, errW_some] <;> rfl), by repeat (first | (with_reducible first | exact HB.out | apply below_alloc | apply pw_below_drewN | apply below_drew1) | exact HB.out)⟩
  · replace c4 := Bool.eq_false_iff.mpr c4
    subst c4
    have H1 : ((spec_A2Tiers.f k l0).bind fun t182 => ((laws_a2At.f l1 0 60).bind fun t185 => ((laws_a2At.f l1 1 250).bind fun t186 => ((impl_DiscountFor.f k t182 (wrap64 (1 + t185))).bind fun bt187 => ((impl_DiscountFor.f k t182 (wrap64 ((wrap64 (1 + t185)) + 1))).bind fun bt189 => ((impl_PriceOfPieces.f k t182 (wrap64 (t186 * 40)) (wrap64 (1 + t185))).bind fun bt191 => (if bt187.2 = 0 then (if bt189.2 = 0 then (if bt187.1 < 0 then (laws_FnPieces.j0 k l1 t182 (wrap64 (1 + t185)) (wrap64 (t186 * 40)) bt191.1 true) else (if bt189.1 < bt187.1 then (laws_FnPieces.j0 k l1 t182 (wrap64 (1 + t185)) (wrap64 (t186 * 40)) bt191.1 true) else (if bt189.1 > 100 then (laws_FnPieces.j0 k l1 t182 (wrap64 (1 + t185)) (wrap64 (t186 * 40)) bt191.1 true) else (if bt191.2 = 0 then (if bt191.1 < 0 then (laws_FnPieces.j0 k l1 t182 (wrap64 (1 + t185)) (wrap64 (t186 * 40)) bt191.1 true) else (if bt191.1 > (wrap64 ((wrap64 (t186 * 40)) * (wrap64 (1 + t185)))) then (laws_FnPieces.j0 k l1 t182 (wrap64 (1 + t185)) (wrap64 (t186 * 40)) bt191.1 true) else (if (wrap64 (100 * bt191.1)) < (wrap64 ((wrap64 ((wrap64 (t186 * 40)) * (wrap64 (1 + t185)))) * (wrap64 (100 - bt187.1)))) then (laws_FnPieces.j0 k l1 t182 (wrap64 (1 + t185)) (wrap64 (t186 * 40)) bt191.1 true) else (laws_FnPieces.j0 k l1 t182 (wrap64 (1 + t185)) (wrap64 (t186 * 40)) bt191.1 (decide ((wrap64 (100 * (wrap64 (bt191.1 - 1)))) ≥ (wrap64 ((wrap64 ((wrap64 (t186 * 40)) * (wrap64 (1 + t185)))) * (wrap64 (100 - bt187.1)))))))))) else (laws_FnPieces.j0 k l1 t182 (wrap64 (1 + t185)) (wrap64 (t186 * 40)) bt191.1 true))))) else (laws_FnPieces.j0 k l1 t182 (wrap64 (1 + t185)) (wrap64 (t186 * 40)) bt191.1 true)) else (laws_FnPieces.j0 k l1 t182 (wrap64 (1 + t185)) (wrap64 (t186 * 40)) bt191.1 true)))))))) = some r := by rw [if_neg (show ¬ (false = true) by decide)] at H; exact H
    clear H
    have H := H1
    clear H1
    replace H := Option.bind_eq_some_iff.mp H
    obtain ⟨t182, A50, H⟩ := H
    replace H : ((laws_a2At.f l1 0 60).bind fun t185 => ((laws_a2At.f l1 1 250).bind fun t186 => ((impl_DiscountFor.f k t182 (wrap64 (1 + t185))).bind fun bt187 => ((impl_DiscountFor.f k t182 (wrap64 ((wrap64 (1 + t185)) + 1))).bind fun bt189 => ((impl_PriceOfPieces.f k t182 (wrap64 (t186 * 40)) (wrap64 (1 + t185))).bind fun bt191 => (if bt187.2 = 0 then (if bt189.2 = 0 then (if bt187.1 < 0 then (laws_FnPieces.j0 k l1 t182 (wrap64 (1 + t185)) (wrap64 (t186 * 40)) bt191.1 true) else (if bt189.1 < bt187.1 then (laws_FnPieces.j0 k l1 t182 (wrap64 (1 + t185)) (wrap64 (t186 * 40)) bt191.1 true) else (if bt189.1 > 100 then (laws_FnPieces.j0 k l1 t182 (wrap64 (1 + t185)) (wrap64 (t186 * 40)) bt191.1 true) else (if bt191.2 = 0 then (if bt191.1 < 0 then (laws_FnPieces.j0 k l1 t182 (wrap64 (1 + t185)) (wrap64 (t186 * 40)) bt191.1 true) else (if bt191.1 > (wrap64 ((wrap64 (t186 * 40)) * (wrap64 (1 + t185)))) then (laws_FnPieces.j0 k l1 t182 (wrap64 (1 + t185)) (wrap64 (t186 * 40)) bt191.1 true) else (if (wrap64 (100 * bt191.1)) < (wrap64 ((wrap64 ((wrap64 (t186 * 40)) * (wrap64 (1 + t185)))) * (wrap64 (100 - bt187.1)))) then (laws_FnPieces.j0 k l1 t182 (wrap64 (1 + t185)) (wrap64 (t186 * 40)) bt191.1 true) else (laws_FnPieces.j0 k l1 t182 (wrap64 (1 + t185)) (wrap64 (t186 * 40)) bt191.1 (decide ((wrap64 (100 * (wrap64 (bt191.1 - 1)))) ≥ (wrap64 ((wrap64 ((wrap64 (t186 * 40)) * (wrap64 (1 + t185)))) * (wrap64 (100 - bt187.1)))))))))) else (laws_FnPieces.j0 k l1 t182 (wrap64 (1 + t185)) (wrap64 (t186 * 40)) bt191.1 true))))) else (laws_FnPieces.j0 k l1 t182 (wrap64 (1 + t185)) (wrap64 (t186 * 40)) bt191.1 true)) else (laws_FnPieces.j0 k l1 t182 (wrap64 (1 + t185)) (wrap64 (t186 * 40)) bt191.1 true))))))) = some r := H
    have A5 := Aside0.mk A50
    clear A50
    replace H := Option.bind_eq_some_iff.mp H
    obtain ⟨t185, A60, H⟩ := H
    replace H : ((laws_a2At.f l1 1 250).bind fun t186 => ((impl_DiscountFor.f k t182 (wrap64 (1 + t185))).bind fun bt187 => ((impl_DiscountFor.f k t182 (wrap64 ((wrap64 (1 + t185)) + 1))).bind fun bt189 => ((impl_PriceOfPieces.f k t182 (wrap64 (t186 * 40)) (wrap64 (1 + t185))).bind fun bt191 => (if bt187.2 = 0 then (if bt189.2 = 0 then (if bt187.1 < 0 then (laws_FnPieces.j0 k l1 t182 (wrap64 (1 + t185)) (wrap64 (t186 * 40)) bt191.1 true) else (if bt189.1 < bt187.1 then (laws_FnPieces.j0 k l1 t182 (wrap64 (1 + t185)) (wrap64 (t186 * 40)) bt191.1 true) else (if bt189.1 > 100 then (laws_FnPieces.j0 k l1 t182 (wrap64 (1 + t185)) (wrap64 (t186 * 40)) bt191.1 true) else (if bt191.2 = 0 then (if bt191.1 < 0 then (laws_FnPieces.j0 k l1 t182 (wrap64 (1 + t185)) (wrap64 (t186 * 40)) bt191.1 true) else (if bt191.1 > (wrap64 ((wrap64 (t186 * 40)) * (wrap64 (1 + t185)))) then (laws_FnPieces.j0 k l1 t182 (wrap64 (1 + t185)) (wrap64 (t186 * 40)) bt191.1 true) else (if (wrap64 (100 * bt191.1)) < (wrap64 ((wrap64 ((wrap64 (t186 * 40)) * (wrap64 (1 + t185)))) * (wrap64 (100 - bt187.1)))) then (laws_FnPieces.j0 k l1 t182 (wrap64 (1 + t185)) (wrap64 (t186 * 40)) bt191.1 true) else (laws_FnPieces.j0 k l1 t182 (wrap64 (1 + t185)) (wrap64 (t186 * 40)) bt191.1 (decide ((wrap64 (100 * (wrap64 (bt191.1 - 1)))) ≥ (wrap64 ((wrap64 ((wrap64 (t186 * 40)) * (wrap64 (1 + t185)))) * (wrap64 (100 - bt187.1)))))))))) else (laws_FnPieces.j0 k l1 t182 (wrap64 (1 + t185)) (wrap64 (t186 * 40)) bt191.1 true))))) else (laws_FnPieces.j0 k l1 t182 (wrap64 (1 + t185)) (wrap64 (t186 * 40)) bt191.1 true)) else (laws_FnPieces.j0 k l1 t182 (wrap64 (1 + t185)) (wrap64 (t186 * 40)) bt191.1 true)))))) = some r := H
    have A6 := Aside0.mk A60
    clear A60
    replace H := Option.bind_eq_some_iff.mp H
    obtain ⟨t186, A70, H⟩ := H
    replace H : ((impl_DiscountFor.f k t182 (wrap64 (1 + t185))).bind fun bt187 => ((impl_DiscountFor.f k t182 (wrap64 ((wrap64 (1 + t185)) + 1))).bind fun bt189 => ((impl_PriceOfPieces.f k t182 (wrap64 (t186 * 40)) (wrap64 (1 + t185))).bind fun bt191 => (if bt187.2 = 0 then (if bt189.2 = 0 then (if bt187.1 < 0 then (laws_FnPieces.j0 k l1 t182 (wrap64 (1 + t185)) (wrap64 (t186 * 40)) bt191.1 true) else (if bt189.1 < bt187.1 then (laws_FnPieces.j0 k l1 t182 (wrap64 (1 + t185)) (wrap64 (t186 * 40)) bt191.1 true) else (if bt189.1 > 100 then (laws_FnPieces.j0 k l1 t182 (wrap64 (1 + t185)) (wrap64 (t186 * 40)) bt191.1 true) else (if bt191.2 = 0 then (if bt191.1 < 0 then (laws_FnPieces.j0 k l1 t182 (wrap64 (1 + t185)) (wrap64 (t186 * 40)) bt191.1 true) else (if bt191.1 > (wrap64 ((wrap64 (t186 * 40)) * (wrap64 (1 + t185)))) then (laws_FnPieces.j0 k l1 t182 (wrap64 (1 + t185)) (wrap64 (t186 * 40)) bt191.1 true) else (if (wrap64 (100 * bt191.1)) < (wrap64 ((wrap64 ((wrap64 (t186 * 40)) * (wrap64 (1 + t185)))) * (wrap64 (100 - bt187.1)))) then (laws_FnPieces.j0 k l1 t182 (wrap64 (1 + t185)) (wrap64 (t186 * 40)) bt191.1 true) else (laws_FnPieces.j0 k l1 t182 (wrap64 (1 + t185)) (wrap64 (t186 * 40)) bt191.1 (decide ((wrap64 (100 * (wrap64 (bt191.1 - 1)))) ≥ (wrap64 ((wrap64 ((wrap64 (t186 * 40)) * (wrap64 (1 + t185)))) * (wrap64 (100 - bt187.1)))))))))) else (laws_FnPieces.j0 k l1 t182 (wrap64 (1 + t185)) (wrap64 (t186 * 40)) bt191.1 true))))) else (laws_FnPieces.j0 k l1 t182 (wrap64 (1 + t185)) (wrap64 (t186 * 40)) bt191.1 true)) else (laws_FnPieces.j0 k l1 t182 (wrap64 (1 + t185)) (wrap64 (t186 * 40)) bt191.1 true))))) = some r := H
    have A7 := Aside0.mk A70
    clear A70
    replace H := Option.bind_eq_some_iff.mp H
    obtain ⟨⟨t187, t188⟩, A80, H⟩ := H
    replace H : ((impl_DiscountFor.f k t182 (wrap64 ((wrap64 (1 + t185)) + 1))).bind fun bt189 => ((impl_PriceOfPieces.f k t182 (wrap64 (t186 * 40)) (wrap64 (1 + t185))).bind fun bt191 => (if t188 = 0 then (if bt189.2 = 0 then (if t187 < 0 then (laws_FnPieces.j0 k l1 t182 (wrap64 (1 + t185)) (wrap64 (t186 * 40)) bt191.1 true) else (if bt189.1 < t187 then (laws_FnPieces.j0 k l1 t182 (wrap64 (1 + t185)) (wrap64 (t186 * 40)) bt191.1 true) else (if bt189.1 > 100 then (laws_FnPieces.j0 k l1 t182 (wrap64 (1 + t185)) (wrap64 (t186 * 40)) bt191.1 true) else (if bt191.2 = 0 then (if bt191.1 < 0 then (laws_FnPieces.j0 k l1 t182 (wrap64 (1 + t185)) (wrap64 (t186 * 40)) bt191.1 true) else (if bt191.1 > (wrap64 ((wrap64 (t186 * 40)) * (wrap64 (1 + t185)))) then (laws_FnPieces.j0 k l1 t182 (wrap64 (1 + t185)) (wrap64 (t186 * 40)) bt191.1 true) else (if (wrap64 (100 * bt191.1)) < (wrap64 ((wrap64 ((wrap64 (t186 * 40)) * (wrap64 (1 + t185)))) * (wrap64 (100 - t187)))) then (laws_FnPieces.j0 k l1 t182 (wrap64 (1 + t185)) (wrap64 (t186 * 40)) bt191.1 true) else (laws_FnPieces.j0 k l1 t182 (wrap64 (1 + t185)) (wrap64 (t186 * 40)) bt191.1 (decide ((wrap64 (100 * (wrap64 (bt191.1 - 1)))) ≥ (wrap64 ((wrap64 ((wrap64 (t186 * 40)) * (wrap64 (1 + t185)))) * (wrap64 (100 - t187)))))))))) else (laws_FnPieces.j0 k l1 t182 (wrap64 (1 + t185)) (wrap64 (t186 * 40)) bt191.1 true))))) else (laws_FnPieces.j0 k l1 t182 (wrap64 (1 + t185)) (wrap64 (t186 * 40)) bt191.1 true)) else (laws_FnPieces.j0 k l1 t182 (wrap64 (1 + t185)) (wrap64 (t186 * 40)) bt191.1 true)))) = some r := H
    have A8 := Aside0.mk A80
    clear A80
    replace H := Option.bind_eq_some_iff.mp H
    obtain ⟨⟨t189, t190⟩, A90, H⟩ := H
    replace H : ((impl_PriceOfPieces.f k t182 (wrap64 (t186 * 40)) (wrap64 (1 + t185))).bind fun bt191 => (if t188 = 0 then (if t190 = 0 then (if t187 < 0 then (laws_FnPieces.j0 k l1 t182 (wrap64 (1 + t185)) (wrap64 (t186 * 40)) bt191.1 true) else (if t189 < t187 then (laws_FnPieces.j0 k l1 t182 (wrap64 (1 + t185)) (wrap64 (t186 * 40)) bt191.1 true) else (if t189 > 100 then (laws_FnPieces.j0 k l1 t182 (wrap64 (1 + t185)) (wrap64 (t186 * 40)) bt191.1 true) else (if bt191.2 = 0 then (if bt191.1 < 0 then (laws_FnPieces.j0 k l1 t182 (wrap64 (1 + t185)) (wrap64 (t186 * 40)) bt191.1 true) else (if bt191.1 > (wrap64 ((wrap64 (t186 * 40)) * (wrap64 (1 + t185)))) then (laws_FnPieces.j0 k l1 t182 (wrap64 (1 + t185)) (wrap64 (t186 * 40)) bt191.1 true) else (if (wrap64 (100 * bt191.1)) < (wrap64 ((wrap64 ((wrap64 (t186 * 40)) * (wrap64 (1 + t185)))) * (wrap64 (100 - t187)))) then (laws_FnPieces.j0 k l1 t182 (wrap64 (1 + t185)) (wrap64 (t186 * 40)) bt191.1 true) else (laws_FnPieces.j0 k l1 t182 (wrap64 (1 + t185)) (wrap64 (t186 * 40)) bt191.1 (decide ((wrap64 (100 * (wrap64 (bt191.1 - 1)))) ≥ (wrap64 ((wrap64 ((wrap64 (t186 * 40)) * (wrap64 (1 + t185)))) * (wrap64 (100 - t187)))))))))) else (laws_FnPieces.j0 k l1 t182 (wrap64 (1 + t185)) (wrap64 (t186 * 40)) bt191.1 true))))) else (laws_FnPieces.j0 k l1 t182 (wrap64 (1 + t185)) (wrap64 (t186 * 40)) bt191.1 true)) else (laws_FnPieces.j0 k l1 t182 (wrap64 (1 + t185)) (wrap64 (t186 * 40)) bt191.1 true))) = some r := H
    have A9 := Aside0.mk A90
    clear A90
    replace H := Option.bind_eq_some_iff.mp H
    obtain ⟨⟨t191, t192⟩, A100, H⟩ := H
    replace H : (if t188 = 0 then (if t190 = 0 then (if t187 < 0 then (laws_FnPieces.j0 k l1 t182 (wrap64 (1 + t185)) (wrap64 (t186 * 40)) t191 true) else (if t189 < t187 then (laws_FnPieces.j0 k l1 t182 (wrap64 (1 + t185)) (wrap64 (t186 * 40)) t191 true) else (if t189 > 100 then (laws_FnPieces.j0 k l1 t182 (wrap64 (1 + t185)) (wrap64 (t186 * 40)) t191 true) else (if t192 = 0 then (if t191 < 0 then (laws_FnPieces.j0 k l1 t182 (wrap64 (1 + t185)) (wrap64 (t186 * 40)) t191 true) else (if t191 > (wrap64 ((wrap64 (t186 * 40)) * (wrap64 (1 + t185)))) then (laws_FnPieces.j0 k l1 t182 (wrap64 (1 + t185)) (wrap64 (t186 * 40)) t191 true) else (if (wrap64 (100 * t191)) < (wrap64 ((wrap64 ((wrap64 (t186 * 40)) * (wrap64 (1 + t185)))) * (wrap64 (100 - t187)))) then (laws_FnPieces.j0 k l1 t182 (wrap64 (1 + t185)) (wrap64 (t186 * 40)) t191 true) else (laws_FnPieces.j0 k l1 t182 (wrap64 (1 + t185)) (wrap64 (t186 * 40)) t191 (decide ((wrap64 (100 * (wrap64 (t191 - 1)))) ≥ (wrap64 ((wrap64 ((wrap64 (t186 * 40)) * (wrap64 (1 + t185)))) * (wrap64 (100 - t187)))))))))) else (laws_FnPieces.j0 k l1 t182 (wrap64 (1 + t185)) (wrap64 (t186 * 40)) t191 true))))) else (laws_FnPieces.j0 k l1 t182 (wrap64 (1 + t185)) (wrap64 (t186 * 40)) t191 true)) else (laws_FnPieces.j0 k l1 t182 (wrap64 (1 + t185)) (wrap64 (t186 * 40)) t191 true)) = some r := H
    have A10 := Aside0.mk A100
    clear A100
    have HC11 := Aside0.mk H
    clear H
    go_enter Try.func12, Try.ntmps12
    go_upto_region 9 with (first | ((with_reducible refine gate_callee (f := 38) rfl ?_); refine goesL_ (some 30) rfl rfl Try.func38 (by kernel_rfl) rfl #[.slice A0 l0.length c0, .slice A1 l1.length c1] rfl (by (try simp only [List.map_toArray, List.map_cons, List.map_nil]); first | done | rfl | (simp only [List.length_drop, List.length_take]; rfl)) ?_; (with_reducible refine (laws_a2Long.calls _ _ l0 _ _ l1 false _ ?side1 ?side2 ?side3 ?side4 A3.out).mono ?_); (case side1 => repeat (first | exact HR0.out | (with_reducible refine Kd.C_alloc ?_ _) | (with_reducible refine Kd.C_drewN ?_ _) | (with_reducible refine Kd.C_drew ?_))); (case side2 => exact HC0.out); (case side3 => repeat (first | exact HR1.out | (with_reducible refine Kd.C_alloc ?_ _) | (with_reducible refine Kd.C_drewN ?_ _) | (with_reducible refine Kd.C_drew ?_))); (case side4 => exact HC1.out); rintro e w' ⟨rfl, ⟨nd, rfl⟩⟩; refine ⟨_, rfl, ?_⟩) | ((with_reducible refine gate_callee (f := 39) rfl ?_); refine goesL_ (some 32) rfl rfl Try.func39 (by kernel_rfl) rfl #[.slice A0 l0.length c0] rfl (by (try simp only [List.map_toArray, List.map_cons, List.map_nil]); first | done | rfl | (simp only [List.length_drop, List.length_take]; rfl)) ?_; (with_reducible refine (spec_A2Tiers.calls k _ _ l0 t182 _ ?side1 ?side2 A5.out).mono ?_); (case side1 => repeat (first | exact HR0.out | (with_reducible refine Kd.C_alloc ?_ _) | (with_reducible refine Kd.C_drewN ?_ _) | (with_reducible refine Kd.C_drew ?_))); (case side2 => exact HC0.out); rintro e w12 ⟨v183, rfl, ho0, hb⟩; refine ⟨_, rfl, ?_⟩; have n0_ := Aside0.mk (Kd.R_lower ho0 (below_size (by repeat (first | (with_reducible first | exact HB.out | apply below_alloc | apply pw_below_drewN | apply below_drew1) | exact HB.out)))); have n1_ := Aside0.mk (below_step (by repeat (first | (with_reducible first | exact HB.out | apply below_alloc | apply pw_below_drewN | apply below_drew1) | exact HB.out)) hb); clear HB; have HO184 := n0_; have HB := n1_; clear n0_ n1_; (try clear hb); (try clear hb2); (try clear hk); (try clear hi); (try clear ho0)) | ((with_reducible refine gate_callee (f := 40) rfl ?_); refine goesL_ (some 34) rfl rfl Try.func40 (by kernel_rfl) rfl #[.slice A1 l1.length c1, .int .i64 0, .int .i64 60] rfl (by (try simp only [List.map_toArray, List.map_cons, List.map_nil]); first | done | rfl | (simp only [List.length_drop, List.length_take]; rfl)) ?_; (with_reducible refine (laws_a2At.calls _ _ l1 0 60 t185 _ ?side1 ?side2 A6.out).mono ?_); (case side1 => repeat (first | exact (Kd.C_below HR1.out HB.out) | (with_reducible refine Kd.C_alloc ?_ _) | (with_reducible refine Kd.C_drewN ?_ _) | (with_reducible refine Kd.C_drew ?_))); (case side2 => exact HC1.out); rintro e w' ⟨rfl, ⟨nd, rfl⟩⟩; refine ⟨_, rfl, ?_⟩) | ((with_reducible refine gate_callee (f := 40) rfl ?_); refine goesL_ (some 37) rfl rfl Try.func40 (by kernel_rfl) rfl #[.slice A1 l1.length c1, .int .i64 1, .int .i64 250] rfl (by (try simp only [List.map_toArray, List.map_cons, List.map_nil]); first | done | rfl | (simp only [List.length_drop, List.length_take]; rfl)) ?_; (with_reducible refine (laws_a2At.calls _ _ l1 1 250 t186 _ ?side1 ?side2 A7.out).mono ?_); (case side1 => repeat (first | exact (Kd.C_below HR1.out (by repeat (first | (with_reducible first | exact HB.out | apply below_alloc | apply pw_below_drewN | apply below_drew1) | exact HB.out))) | (with_reducible refine Kd.C_alloc ?_ _) | (with_reducible refine Kd.C_drewN ?_ _) | (with_reducible refine Kd.C_drew ?_))); (case side2 => exact HC1.out); rintro e w' ⟨rfl, ⟨nd, rfl⟩⟩; refine ⟨_, rfl, ?_⟩; obtain ⟨Ao13, co13, eo13⟩ := Kd.R_slice HO184.out; subst eo13) | ((with_reducible refine gate_callee (f := 27) rfl ?_); refine goesL_ (some 42) rfl rfl Try.func27 (by kernel_rfl) rfl #[.slice Ao13 t182.length co13, .int .i64 (wrap64 (1 + t185))] rfl (by (try simp only [List.map_toArray, List.map_cons, List.map_nil]); first | done | rfl | (simp only [List.length_drop, List.length_take]; rfl)) ?_; (with_reducible refine (impl_DiscountFor.calls k _ _ t182 (wrap64 (1 + t185)) t187 t188 _ ?side1 ?side2 A8.out).mono ?_); (case side1 => repeat (first | exact (Kd.R_reads' HO184.out).2.2 | (with_reducible refine Kd.C_alloc ?_ _) | (with_reducible refine Kd.C_drewN ?_ _) | (with_reducible refine Kd.C_drew ?_))); (case side2 => exact (Kd.R_reads' HO184.out).2.1); rintro e w14 ⟨rfl, hb⟩; refine ⟨_, rfl, ?_⟩; have n0_ := Aside0.mk (Kd.R_below (by (with_reducible repeat (first | apply Kd.R_alloc | apply Kd.R_drewN | apply Kd.R_drew)); exact HO184.out) hb); have n1_ := Aside0.mk (below_step (by repeat (first | (with_reducible first | exact HB.out | apply below_alloc | apply pw_below_drewN | apply below_drew1) | exact HB.out)) hb); clear HO184; clear HB; have HO184 := n0_; have HB := n1_; clear n0_ n1_; (try clear hb); (try clear hb2); (try clear hk); (try clear hi)) | ((with_reducible refine gate_callee (f := 27) rfl ?_); refine goesL_ (some 49) rfl rfl Try.func27 (by kernel_rfl) rfl #[.slice Ao13 t182.length co13, .int .i64 (wrap64 ((wrap64 (1 + t185)) + 1))] rfl (by (try simp only [List.map_toArray, List.map_cons, List.map_nil]); first | done | rfl | (simp only [List.length_drop, List.length_take]; rfl)) ?_; (with_reducible refine (impl_DiscountFor.calls k _ _ t182 (wrap64 ((wrap64 (1 + t185)) + 1)) t189 t190 _ ?side1 ?side2 A9.out).mono ?_); (case side1 => repeat (first | exact (Kd.R_reads' HO184.out).2.2 | (with_reducible refine Kd.C_alloc ?_ _) | (with_reducible refine Kd.C_drewN ?_ _) | (with_reducible refine Kd.C_drew ?_))); (case side2 => exact (Kd.R_reads' HO184.out).2.1); rintro e w15 ⟨rfl, hb⟩; refine ⟨_, rfl, ?_⟩; have n0_ := Aside0.mk (Kd.R_below (by (with_reducible repeat (first | apply Kd.R_alloc | apply Kd.R_drewN | apply Kd.R_drew)); exact HO184.out) hb); have n1_ := Aside0.mk (below_step (by repeat (first | (with_reducible first | exact HB.out | apply below_alloc | apply pw_below_drewN | apply below_drew1) | exact HB.out)) hb); clear HO184; clear HB; have HO184 := n0_; have HB := n1_; clear n0_ n1_; (try clear hb); (try clear hb2); (try clear hk); (try clear hi)) | ((with_reducible refine gate_callee (f := 29) rfl ?_); refine goesL_ (some 56) rfl rfl Try.func29 (by kernel_rfl) rfl #[.slice Ao13 t182.length co13, .int .i64 (wrap64 (t186 * 40)), .int .i64 (wrap64 (1 + t185))] rfl (by (try simp only [List.map_toArray, List.map_cons, List.map_nil]); first | done | rfl | (simp only [List.length_drop, List.length_take]; rfl)) ?_; (with_reducible refine (impl_PriceOfPieces.calls k _ _ t182 (wrap64 (t186 * 40)) (wrap64 (1 + t185)) t191 t192 _ ?side1 ?side2 A10.out).mono ?_); (case side1 => repeat (first | exact (Kd.R_reads' HO184.out).2.2 | (with_reducible refine Kd.C_alloc ?_ _) | (with_reducible refine Kd.C_drewN ?_ _) | (with_reducible refine Kd.C_drew ?_))); (case side2 => exact (Kd.R_reads' HO184.out).2.1); rintro e w16 ⟨rfl, hb⟩; refine ⟨_, rfl, ?_⟩; have n0_ := Aside0.mk (Kd.R_below (by (with_reducible repeat (first | apply Kd.R_alloc | apply Kd.R_drewN | apply Kd.R_drew)); exact HO184.out) hb); have n1_ := Aside0.mk (below_step (by repeat (first | (with_reducible first | exact HB.out | apply below_alloc | apply pw_below_drewN | apply below_drew1) | exact HB.out)) hb); clear HO184; clear HB; have HO184 := n0_; have HB := n1_; clear n0_ n1_; (try clear hb); (try clear hb2); (try clear hk); (try clear hi)))
    (try simp only [Act.put, List.setIfInBounds_toArray, List.set_cons_zero, List.set_cons_succ])
    go_cut [115] (fun v115 wc => ∃ (kq : Nat) (x115_10 : Bool), v115 = .bool x115_10 ∧ Aside0 (laws_FnPieces.j0 kq l1 t182 (wrap64 (1 + t185)) (wrap64 (t186 * 40)) t191 x115_10 = some r) ∧ Aside0 (kq ≤ k) ∧ Aside0 (Kd.R k55 55 wc w.heap.size (fun _ => True) (.slice Ao13 t182.length co13) t182) ∧ Aside0 (Below w.heap.size w wc))
    case first => as_aux_lemma =>
      have H := HC11.out
      clear HC11
      by_cases c17 : t188 = 0
      · rw [if_pos c17] at H
        have c17b0 : (t188 == 0) = true := beq_iff_eq.mpr c17
        have c17b1 : (t188 != 0) = false := bne_eq_false_iff_eq.mpr c17
        clear c17
        (first | rw [c17b0] | (simp only [i64_w, i32_w]; rw [c17b0]) | skip)
        by_cases c18 : t190 = 0
        · rw [if_pos c18] at H
          have c18b0 : (t190 == 0) = true := beq_iff_eq.mpr c18
          have c18b1 : (t190 != 0) = false := bne_eq_false_iff_eq.mpr c18
          clear c18
          by_cases c19 : t187 < 0
          · rw [if_pos c19] at H
            have c19b0 : decide (t187 < 0) = true := decide_eq_true c19
            clear c19
            have H' := Aside0.mk H
            clear H
            go_wp2
            go_meet
            case rel => exact ⟨_, (true), (by first | rfl | (simp; done) | (simp [*]; done)), H', ⟨by first | omega | exact Nat.le_refl _⟩, ⟨by (with_reducible repeat (first | apply Kd.R_alloc | apply Kd.R_drewN | apply Kd.R_drew)); exact HO184.out⟩, ⟨by repeat (first | (with_reducible first | exact HB.out | apply below_alloc | apply pw_below_drewN | apply below_drew1) | exact HB.out)⟩⟩
          · rw [if_neg c19] at H
            have c19b0 : decide (t187 < 0) = false := decide_eq_false c19
            clear c19
            by_cases c20 : t189 < t187
            · rw [if_pos c20] at H
              have c20b0 : decide (t189 < t187) = true := decide_eq_true c20
              clear c20
              have H' := Aside0.mk H
              clear H
              go_wp2
              go_meet
              case rel => exact ⟨_, (true), (by first | rfl | (simp; done) | (simp [*]; done)), H', ⟨by first | omega | exact Nat.le_refl _⟩, ⟨by (with_reducible repeat (first | apply Kd.R_alloc | apply Kd.R_drewN | apply Kd.R_drew)); exact HO184.out⟩, ⟨by repeat (first | (with_reducible first | exact HB.out | apply below_alloc | apply pw_below_drewN | apply below_drew1) | exact HB.out)⟩⟩
            · rw [if_neg c20] at H
              have c20b0 : decide (t189 < t187) = false := decide_eq_false c20
              clear c20
              by_cases c21 : t189 > 100
              · rw [if_pos c21] at H
                have c21b0 : decide (100 < t189) = true := decide_eq_true c21
                clear c21
                have H' := Aside0.mk H
                clear H
                go_wp2
                go_meet
                case rel => exact ⟨_, (true), (by first | rfl | (simp; done) | (simp [*]; done)), H', ⟨by first | omega | exact Nat.le_refl _⟩, ⟨by (with_reducible repeat (first | apply Kd.R_alloc | apply Kd.R_drewN | apply Kd.R_drew)); exact HO184.out⟩, ⟨by repeat (first | (with_reducible first | exact HB.out | apply below_alloc | apply pw_below_drewN | apply below_drew1) | exact HB.out)⟩⟩
              · rw [if_neg c21] at H
                have c21b0 : decide (100 < t189) = false := decide_eq_false c21
                clear c21
                by_cases c22 : t192 = 0
                · rw [if_pos c22] at H
                  have c22b0 : (t192 == 0) = true := beq_iff_eq.mpr c22
                  have c22b1 : (t192 != 0) = false := bne_eq_false_iff_eq.mpr c22
                  clear c22
                  by_cases c23 : t191 < 0
                  · rw [if_pos c23] at H
                    have c23b0 : decide (t191 < 0) = true := decide_eq_true c23
                    clear c23
                    have H' := Aside0.mk H
                    clear H
                    go_wp2
                    go_meet
                    case rel => exact ⟨_, (true), (by first | rfl | (simp; done) | (simp [*]; done)), H', ⟨by first | omega | exact Nat.le_refl _⟩, ⟨by (with_reducible repeat (first | apply Kd.R_alloc | apply Kd.R_drewN | apply Kd.R_drew)); exact HO184.out⟩, ⟨by repeat (first | (with_reducible first | exact HB.out | apply below_alloc | apply pw_below_drewN | apply below_drew1) | exact HB.out)⟩⟩
                  · rw [if_neg c23] at H
                    have c23b0 : decide (t191 < 0) = false := decide_eq_false c23
                    clear c23
                    by_cases c24 : t191 > (wrap64 ((wrap64 (t186 * 40)) * (wrap64 (1 + t185))))
                    · rw [if_pos c24] at H
                      have c24b0 : decide ((wrap64 ((wrap64 (t186 * 40)) * (wrap64 (1 + t185)))) < t191) = true := decide_eq_true c24
                      clear c24
                      have H' := Aside0.mk H
                      clear H
                      go_wp2
                      go_meet
                      case rel => exact ⟨_, (true), (by first | rfl | (simp; done) | (simp [*]; done)), H', ⟨by first | omega | exact Nat.le_refl _⟩, ⟨by (with_reducible repeat (first | apply Kd.R_alloc | apply Kd.R_drewN | apply Kd.R_drew)); exact HO184.out⟩, ⟨by repeat (first | (with_reducible first | exact HB.out | apply below_alloc | apply pw_below_drewN | apply below_drew1) | exact HB.out)⟩⟩
                    · rw [if_neg c24] at H
                      have c24b0 : decide ((wrap64 ((wrap64 (t186 * 40)) * (wrap64 (1 + t185)))) < t191) = false := decide_eq_false c24
                      clear c24
                      by_cases c25 : (wrap64 (100 * t191)) < (wrap64 ((wrap64 ((wrap64 (t186 * 40)) * (wrap64 (1 + t185)))) * (wrap64 (100 - t187))))
                      · rw [if_pos c25] at H
                        have c25b0 : decide ((wrap64 (100 * t191)) < (wrap64 ((wrap64 ((wrap64 (t186 * 40)) * (wrap64 (1 + t185)))) * (wrap64 (100 - t187))))) = true := decide_eq_true c25
                        clear c25
                        have H' := Aside0.mk H
                        clear H
                        go_wp2
                        go_meet
                        case rel => exact ⟨_, (true), (by first | rfl | (simp; done) | (simp [*]; done)), H', ⟨by first | omega | exact Nat.le_refl _⟩, ⟨by (with_reducible repeat (first | apply Kd.R_alloc | apply Kd.R_drewN | apply Kd.R_drew)); exact HO184.out⟩, ⟨by repeat (first | (with_reducible first | exact HB.out | apply below_alloc | apply pw_below_drewN | apply below_drew1) | exact HB.out)⟩⟩
                      · rw [if_neg c25] at H
                        have c25b0 : decide ((wrap64 (100 * t191)) < (wrap64 ((wrap64 ((wrap64 (t186 * 40)) * (wrap64 (1 + t185)))) * (wrap64 (100 - t187))))) = false := decide_eq_false c25
                        clear c25
                        have H' := Aside0.mk H
                        clear H
                        go_wp2
                        go_meet
                        case rel => exact ⟨_, (decide ((wrap64 (100 * (wrap64 (t191 - 1)))) ≥ (wrap64 ((wrap64 ((wrap64 (t186 * 40)) * (wrap64 (1 + t185)))) * (wrap64 (100 - t187)))))), (by first | rfl | (simp; done) | (simp [*]; done)), H', ⟨by first | omega | exact Nat.le_refl _⟩, ⟨by (with_reducible repeat (first | apply Kd.R_alloc | apply Kd.R_drewN | apply Kd.R_drew)); exact HO184.out⟩, ⟨by repeat (first | (with_reducible first | exact HB.out | apply below_alloc | apply pw_below_drewN | apply below_drew1) | exact HB.out)⟩⟩
                · rw [if_neg c22] at H
                  have c22b0 : (t192 == 0) = false := beq_eq_false_iff_ne.mpr c22
                  have c22b1 : (t192 != 0) = true := bne_iff_ne.mpr c22
                  have H' := Aside0.mk H
                  clear H
                  go_wp2
                  go_meet
                  case rel => exact ⟨_, (true), (by first | rfl | (simp; done) | (simp [*]; done)), H', ⟨by first | omega | exact Nat.le_refl _⟩, ⟨by (with_reducible repeat (first | apply Kd.R_alloc | apply Kd.R_drewN | apply Kd.R_drew)); exact HO184.out⟩, ⟨by repeat (first | (with_reducible first | exact HB.out | apply below_alloc | apply pw_below_drewN | apply below_drew1) | exact HB.out)⟩⟩
        · rw [if_neg c18] at H
          have c18b0 : (t190 == 0) = false := beq_eq_false_iff_ne.mpr c18
          have c18b1 : (t190 != 0) = true := bne_iff_ne.mpr c18
          have H' := Aside0.mk H
          clear H
          go_wp2
          go_meet
          case rel => exact ⟨_, (true), (by first | rfl | (simp; done) | (simp [*]; done)), H', ⟨by first | omega | exact Nat.le_refl _⟩, ⟨by (with_reducible repeat (first | apply Kd.R_alloc | apply Kd.R_drewN | apply Kd.R_drew)); exact HO184.out⟩, ⟨by repeat (first | (with_reducible first | exact HB.out | apply below_alloc | apply pw_below_drewN | apply below_drew1) | exact HB.out)⟩⟩
      · rw [if_neg c17] at H
        have c17b0 : (t188 == 0) = false := beq_eq_false_iff_ne.mpr c17
        have c17b1 : (t188 != 0) = true := bne_iff_ne.mpr c17
        (first | rw [c17b0] | (simp only [i64_w, i32_w]; rw [c17b0]) | skip)
        have H' := Aside0.mk H
        clear H
        go_wp2
        go_meet
        case rel => exact ⟨_, (true), (by first | rfl | (simp; done) | (simp [*]; done)), H', ⟨by first | omega | exact Nat.le_refl _⟩, ⟨by (with_reducible repeat (first | apply Kd.R_alloc | apply Kd.R_drewN | apply Kd.R_drew)); exact HO184.out⟩, ⟨by repeat (first | (with_reducible first | exact HB.out | apply below_alloc | apply pw_below_drewN | apply below_drew1) | exact HB.out)⟩⟩
    case rest => as_aux_lemma =>
      clear HC11
      try clear c1
      try clear c2
      try clear p2
      try clear c3
      try clear c4
      try clear p6
      try clear c12
      try clear c17
      try clear c17b0
      try clear c17b1
      try clear c18
      try clear c18b0
      try clear c18b1
      try clear c19
      try clear c19b0
      try clear c20
      try clear c20b0
      try clear c21
      try clear c21b0
      try clear c22
      try clear c22b0
      try clear c22b1
      try clear c23
      try clear c23b0
      try clear c24
      try clear c24b0
      try clear c25
      try clear c25b0
      obtain ⟨kq, x115_10, rfl, HA, HJ10, HO_5, HB⟩ := hcut
      cases kq with
      | zero => exact absurd HA.out (by simp [laws_FnPieces.j0])
      | succ kj10 =>
        have H := HA.out
        clear HA
        simp only [laws_FnPieces.j0] at H
        by_cases c26 : x115_10 = true
        · subst c26
          have H1 : (some false) = some r := by rw [if_pos rfl] at H; exact H
          clear H
          have H := H1
          clear H1
          obtain rfl := Option.some.inj H
          go_wp2
          go_ret
          exact ⟨by first | rfl | (simp [errW_none, errW_some] <;> rfl) | (simp [*, errW_none, errW_some] <;> rfl), by repeat (first | (with_reducible first | exact HB.out | apply below_alloc | apply pw_below_drewN | apply below_drew1) | exact HB.out)⟩
        · replace c26 := Bool.eq_false_iff.mpr c26
          subst c26
          have H1 : ((impl_CheaperMore.f kj10 t182 (wrap64 (t186 * 40)) (wrap64 (1 + t185))).bind fun bt193 => (if bt193.2 = 0 then ((impl_PriceOfPieces.f kj10 t182 (wrap64 (t186 * 40)) bt193.1).bind fun bt195 => (if bt193.1 ≤ (wrap64 (1 + t185)) then (laws_FnPieces.j1 kj10 l1 t182 (wrap64 (1 + t185)) (wrap64 (t186 * 40)) t191 bt193.1 true) else (if bt193.1 > 10000 then (laws_FnPieces.j1 kj10 l1 t182 (wrap64 (1 + t185)) (wrap64 (t186 * 40)) t191 bt193.1 true) else (if bt195.2 = 0 then (laws_FnPieces.j1 kj10 l1 t182 (wrap64 (1 + t185)) (wrap64 (t186 * 40)) t191 bt193.1 (decide (bt195.1 ≥ t191))) else (laws_FnPieces.j1 kj10 l1 t182 (wrap64 (1 + t185)) (wrap64 (t186 * 40)) t191 bt193.1 true))))) else (if bt193.2 = 3 then (laws_FnPieces.j2 kj10 l1 (wrap64 (t186 * 40))) else (some false)))) = some r := by rw [if_neg (show ¬ (false = true) by decide)] at H; exact H
          clear H
          have H := H1
          clear H1
          replace H := Option.bind_eq_some_iff.mp H
          obtain ⟨⟨t193, t194⟩, A270, H⟩ := H
          replace H : (if t194 = 0 then ((impl_PriceOfPieces.f kj10 t182 (wrap64 (t186 * 40)) t193).bind fun bt195 => (if t193 ≤ (wrap64 (1 + t185)) then (laws_FnPieces.j1 kj10 l1 t182 (wrap64 (1 + t185)) (wrap64 (t186 * 40)) t191 t193 true) else (if t193 > 10000 then (laws_FnPieces.j1 kj10 l1 t182 (wrap64 (1 + t185)) (wrap64 (t186 * 40)) t191 t193 true) else (if bt195.2 = 0 then (laws_FnPieces.j1 kj10 l1 t182 (wrap64 (1 + t185)) (wrap64 (t186 * 40)) t191 t193 (decide (bt195.1 ≥ t191))) else (laws_FnPieces.j1 kj10 l1 t182 (wrap64 (1 + t185)) (wrap64 (t186 * 40)) t191 t193 true))))) else (if t194 = 3 then (laws_FnPieces.j2 kj10 l1 (wrap64 (t186 * 40))) else (some false))) = some r := H
          have A27 := Aside0.mk A270
          clear A270
          have HC28 := Aside0.mk H
          clear H
          go_upto_if 124 with (first | ((with_reducible refine gate_callee (f := 31) rfl ?_); refine goesL_ (some 120) rfl rfl Try.func31 (by kernel_rfl) rfl #[.slice Ao13 t182.length co13, .int .i64 (wrap64 (t186 * 40)), .int .i64 (wrap64 (1 + t185))] rfl (by (try simp only [List.map_toArray, List.map_cons, List.map_nil]); first | done | rfl | (simp only [List.length_drop, List.length_take]; rfl)) ?_; (with_reducible refine (impl_CheaperMore.calls kj10 _ _ t182 (wrap64 (t186 * 40)) (wrap64 (1 + t185)) t193 t194 _ ?side1 ?side2 A27.out).mono ?_); (case side1 => repeat (first | exact (Kd.R_reads' HO_5.out).2.2 | (with_reducible refine Kd.C_alloc ?_ _) | (with_reducible refine Kd.C_drewN ?_ _) | (with_reducible refine Kd.C_drew ?_))); (case side2 => exact (Kd.R_reads' HO_5.out).2.1); rintro e w29 ⟨rfl, hb⟩; refine ⟨_, rfl, ?_⟩; have n0_ := Aside0.mk (Kd.R_below (by (with_reducible repeat (first | apply Kd.R_alloc | apply Kd.R_drewN | apply Kd.R_drew)); exact HO_5.out) hb); have n1_ := Aside0.mk (below_step (by repeat (first | (with_reducible first | exact HB.out | apply below_alloc | apply pw_below_drewN | apply below_drew1) | exact HB.out)) hb); clear HO_5; clear HB; have HO_5 := n0_; have HB := n1_; clear n0_ n1_; (try clear hb); (try clear hb2); (try clear hk); (try clear hi)))
          (try simp only [Act.put, List.setIfInBounds_toArray, List.set_cons_zero, List.set_cons_succ])
          go_cut [] (fun wc => ∃ (kq : Nat), Aside0 (laws_FnPieces.j2 kq l1 (wrap64 (t186 * 40)) = some r) ∧ Aside0 (kq ≤ kj10) ∧ Aside0 (Below w.heap.size w wc))
          case first => as_aux_lemma =>
            have H := HC28.out
            clear HC28
            by_cases c30 : t194 = 0
            · rw [if_pos c30] at H
              have c30b0 : (t194 == 0) = true := beq_iff_eq.mpr c30
              have c30b1 : (t194 != 0) = false := bne_eq_false_iff_eq.mpr c30
              clear c30
              (first | rw [c30b0] | (simp only [i64_w, i32_w]; rw [c30b0]) | skip)
              replace H := Option.bind_eq_some_iff.mp H
              obtain ⟨⟨t195, t196⟩, A310, H⟩ := H
              replace H : (if t193 ≤ (wrap64 (1 + t185)) then (laws_FnPieces.j1 kj10 l1 t182 (wrap64 (1 + t185)) (wrap64 (t186 * 40)) t191 t193 true) else (if t193 > 10000 then (laws_FnPieces.j1 kj10 l1 t182 (wrap64 (1 + t185)) (wrap64 (t186 * 40)) t191 t193 true) else (if t196 = 0 then (laws_FnPieces.j1 kj10 l1 t182 (wrap64 (1 + t185)) (wrap64 (t186 * 40)) t191 t193 (decide (t195 ≥ t191))) else (laws_FnPieces.j1 kj10 l1 t182 (wrap64 (1 + t185)) (wrap64 (t186 * 40)) t191 t193 true)))) = some r := H
              have A31 := Aside0.mk A310
              clear A310
              have HC32 := Aside0.mk H
              clear H
              go_upto_region 14 with (first | ((with_reducible refine gate_callee (f := 29) rfl ?_); refine goesL_ (some 129) rfl rfl Try.func29 (by kernel_rfl) rfl #[.slice Ao13 t182.length co13, .int .i64 (wrap64 (t186 * 40)), .int .i64 t193] rfl (by (try simp only [List.map_toArray, List.map_cons, List.map_nil]); first | done | rfl | (simp only [List.length_drop, List.length_take]; rfl)) ?_; (with_reducible refine (impl_PriceOfPieces.calls kj10 _ _ t182 (wrap64 (t186 * 40)) t193 t195 t196 _ ?side1 ?side2 A31.out).mono ?_); (case side1 => repeat (first | exact (Kd.R_reads' HO_5.out).2.2 | (with_reducible refine Kd.C_alloc ?_ _) | (with_reducible refine Kd.C_drewN ?_ _) | (with_reducible refine Kd.C_drew ?_))); (case side2 => exact (Kd.R_reads' HO_5.out).2.1); rintro e w33 ⟨rfl, hb⟩; refine ⟨_, rfl, ?_⟩; have n0_ := Aside0.mk (Kd.R_below (by (with_reducible repeat (first | apply Kd.R_alloc | apply Kd.R_drewN | apply Kd.R_drew)); exact HO_5.out) hb); have n1_ := Aside0.mk (below_step (by repeat (first | (with_reducible first | exact HB.out | apply below_alloc | apply pw_below_drewN | apply below_drew1) | exact HB.out)) hb); clear HO_5; clear HB; have HO_5 := n0_; have HB := n1_; clear n0_ n1_; (try clear hb); (try clear hb2); (try clear hk); (try clear hi)))
              (try simp only [Act.put, List.setIfInBounds_toArray, List.set_cons_zero, List.set_cons_succ])
              go_cut [147] (fun v147 wc => ∃ (kq : Nat) (x147_31 : Bool), v147 = .bool x147_31 ∧ Aside0 (laws_FnPieces.j1 kq l1 t182 (wrap64 (1 + t185)) (wrap64 (t186 * 40)) t191 t193 x147_31 = some r) ∧ Aside0 (kq ≤ kj10) ∧ Aside0 (Kd.R k55 55 wc w.heap.size (fun _ => True) (.slice Ao13 t182.length co13) t182) ∧ Aside0 (Below w.heap.size w wc))
              case first => as_aux_lemma =>
                have H := HC32.out
                clear HC32
                by_cases c34 : t193 ≤ (wrap64 (1 + t185))
                · rw [if_pos c34] at H
                  have c34b0 : decide (t193 ≤ (wrap64 (1 + t185))) = true := decide_eq_true c34
                  clear c34
                  (first | rw [c34b0] | (simp only [i64_w, i32_w]; rw [c34b0]) | skip)
                  have H' := Aside0.mk H
                  clear H
                  go_wp2
                  go_meet
                  case rel => exact ⟨_, (true), (by first | rfl | (simp; done) | (simp [*]; done)), H', ⟨by have := HJ10.out; first | omega | exact Nat.le_refl _⟩, ⟨by (with_reducible repeat (first | apply Kd.R_alloc | apply Kd.R_drewN | apply Kd.R_drew)); exact HO_5.out⟩, ⟨by repeat (first | (with_reducible first | exact HB.out | apply below_alloc | apply pw_below_drewN | apply below_drew1) | exact HB.out)⟩⟩
                · rw [if_neg c34] at H
                  have c34b0 : decide (t193 ≤ (wrap64 (1 + t185))) = false := decide_eq_false c34
                  clear c34
                  (first | rw [c34b0] | (simp only [i64_w, i32_w]; rw [c34b0]) | skip)
                  by_cases c35 : t193 > 10000
                  · rw [if_pos c35] at H
                    have c35b0 : decide (10000 < t193) = true := decide_eq_true c35
                    clear c35
                    have H' := Aside0.mk H
                    clear H
                    go_wp2
                    go_meet
                    case rel => exact ⟨_, (true), (by first | rfl | (simp; done) | (simp [*]; done)), H', ⟨by have := HJ10.out; first | omega | exact Nat.le_refl _⟩, ⟨by (with_reducible repeat (first | apply Kd.R_alloc | apply Kd.R_drewN | apply Kd.R_drew)); exact HO_5.out⟩, ⟨by repeat (first | (with_reducible first | exact HB.out | apply below_alloc | apply pw_below_drewN | apply below_drew1) | exact HB.out)⟩⟩
                  · rw [if_neg c35] at H
                    have c35b0 : decide (10000 < t193) = false := decide_eq_false c35
                    clear c35
                    by_cases c36 : t196 = 0
                    · rw [if_pos c36] at H
                      have c36b0 : (t196 == 0) = true := beq_iff_eq.mpr c36
                      have c36b1 : (t196 != 0) = false := bne_eq_false_iff_eq.mpr c36
                      clear c36
                      have H' := Aside0.mk H
                      clear H
                      go_wp2
                      go_meet
                      case rel => exact ⟨_, (decide (t195 ≥ t191)), (by first | rfl | (simp; done) | (simp [*]; done)), H', ⟨by have := HJ10.out; first | omega | exact Nat.le_refl _⟩, ⟨by (with_reducible repeat (first | apply Kd.R_alloc | apply Kd.R_drewN | apply Kd.R_drew)); exact HO_5.out⟩, ⟨by repeat (first | (with_reducible first | exact HB.out | apply below_alloc | apply pw_below_drewN | apply below_drew1) | exact HB.out)⟩⟩
                    · rw [if_neg c36] at H
                      have c36b0 : (t196 == 0) = false := beq_eq_false_iff_ne.mpr c36
                      have c36b1 : (t196 != 0) = true := bne_iff_ne.mpr c36
                      have H' := Aside0.mk H
                      clear H
                      go_wp2
                      go_meet
                      case rel => exact ⟨_, (true), (by first | rfl | (simp; done) | (simp [*]; done)), H', ⟨by have := HJ10.out; first | omega | exact Nat.le_refl _⟩, ⟨by (with_reducible repeat (first | apply Kd.R_alloc | apply Kd.R_drewN | apply Kd.R_drew)); exact HO_5.out⟩, ⟨by repeat (first | (with_reducible first | exact HB.out | apply below_alloc | apply pw_below_drewN | apply below_drew1) | exact HB.out)⟩⟩
              case rest => as_aux_lemma =>
                clear HC32
                try clear c1
                try clear c2
                try clear p2
                try clear c3
                try clear c4
                try clear p6
                try clear c12
                try clear c17
                try clear c17b0
                try clear c17b1
                try clear c18
                try clear c18b0
                try clear c18b1
                try clear c19
                try clear c19b0
                try clear c20
                try clear c20b0
                try clear c21
                try clear c21b0
                try clear c22
                try clear c22b0
                try clear c22b1
                try clear c23
                try clear c23b0
                try clear c24
                try clear c24b0
                try clear c25
                try clear c25b0
                try clear c26
                try clear c27
                try clear c29
                try clear c30
                try clear c30b0
                try clear c30b1
                try clear c31
                try clear c34
                try clear c34b0
                try clear c35
                try clear c35b0
                try clear c36
                try clear c36b0
                try clear c36b1
                try clear p2
                try clear p6
                obtain ⟨kq, x147_31, rfl, HA, HJ31, HO_5, HB⟩ := hcut
                cases kq with
                | zero => exact absurd HA.out (by simp [laws_FnPieces.j1])
                | succ kj31 =>
                  have H := HA.out
                  clear HA
                  simp only [laws_FnPieces.j1] at H
                  by_cases c37 : x147_31 = true
                  · subst c37
                    have H1 : (some false) = some r := by rw [if_pos rfl] at H; exact H
                    clear H
                    have H := H1
                    clear H1
                    obtain rfl := Option.some.inj H
                    go_wp2
                    go_ret
                    exact ⟨by first | rfl | (simp [errW_none, errW_some] <;> rfl) | (simp [*, errW_none, errW_some] <;> rfl), by repeat (first | (with_reducible first | exact HB.out | apply below_alloc | apply pw_below_drewN | apply below_drew1) | exact HB.out)⟩
                  · replace c37 := Bool.eq_false_iff.mpr c37
                    subst c37
                    have H1 : ((spec_PriceOfPieces.f kj31 t182 (wrap64 (t186 * 40)) (wrap64 (t193 - 1))).bind fun bt197 => (if bt197.2 = 0 then (if (wrap64 (t193 - 1)) > (wrap64 (1 + t185)) then (if bt197.1 < t191 then (some false) else (laws_FnPieces.j2 kj31 l1 (wrap64 (t186 * 40)))) else (laws_FnPieces.j2 kj31 l1 (wrap64 (t186 * 40)))) else (some false))) = some r := by rw [if_neg (show ¬ (false = true) by decide)] at H; exact H
                    clear H
                    have H := H1
                    clear H1
                    replace H := Option.bind_eq_some_iff.mp H
                    obtain ⟨⟨t197, t198⟩, A380, H⟩ := H
                    replace H : (if t198 = 0 then (if (wrap64 (t193 - 1)) > (wrap64 (1 + t185)) then (if t197 < t191 then (some false) else (laws_FnPieces.j2 kj31 l1 (wrap64 (t186 * 40)))) else (laws_FnPieces.j2 kj31 l1 (wrap64 (t186 * 40)))) else (some false)) = some r := H
                    have A38 := Aside0.mk A380
                    clear A380
                    by_cases c39 : t198 = 0
                    · rw [if_pos c39] at H
                      have c39b0 : (t198 == 0) = true := beq_iff_eq.mpr c39
                      have c39b1 : (t198 != 0) = false := bne_eq_false_iff_eq.mpr c39
                      clear c39
                      by_cases c40 : (wrap64 (t193 - 1)) > (wrap64 (1 + t185))
                      · rw [if_pos c40] at H
                        have c40b0 : decide ((wrap64 (1 + t185)) < (wrap64 (t193 - 1))) = true := decide_eq_true c40
                        clear c40
                        by_cases c41 : t197 < t191
                        · rw [if_pos c41] at H
                          have c41b0 : decide (t197 < t191) = true := decide_eq_true c41
                          clear c41
                          obtain rfl := Option.some.inj H
                          go_wp2_with (first | ((with_reducible refine gate_callee (f := 28) rfl ?_); refine goesL_ (some 153) rfl rfl Try.func28 (by kernel_rfl) rfl #[.slice Ao13 t182.length co13, .int .i64 (wrap64 (t186 * 40)), .int .i64 (wrap64 (t193 - 1))] rfl (by (try simp only [List.map_toArray, List.map_cons, List.map_nil]); first | done | rfl | (simp only [List.length_drop, List.length_take]; rfl)) ?_; (with_reducible refine (spec_PriceOfPieces.calls kj31 _ _ t182 (wrap64 (t186 * 40)) (wrap64 (t193 - 1)) t197 t198 _ ?side1 ?side2 A38.out).mono ?_); (case side1 => repeat (first | exact (Kd.R_reads' HO_5.out).2.2 | (with_reducible refine Kd.C_alloc ?_ _) | (with_reducible refine Kd.C_drewN ?_ _) | (with_reducible refine Kd.C_drew ?_))); (case side2 => exact (Kd.R_reads' HO_5.out).2.1); rintro e w42 ⟨rfl, hb⟩; refine ⟨_, rfl, ?_⟩; have n0_ := Aside0.mk (Kd.R_below (by (with_reducible repeat (first | apply Kd.R_alloc | apply Kd.R_drewN | apply Kd.R_drew)); exact HO_5.out) hb); have n1_ := Aside0.mk (below_step (by repeat (first | (with_reducible first | exact HB.out | apply below_alloc | apply pw_below_drewN | apply below_drew1) | exact HB.out)) hb); clear HO_5; clear HB; have HO_5 := n0_; have HB := n1_; clear n0_ n1_; (try clear hb); (try clear hb2); (try clear hk); (try clear hi)))
                          go_ret
                          exact ⟨by first | rfl | (simp [errW_none, errW_some] <;> rfl) | (simp [*, errW_none, errW_some] <;> rfl), by repeat (first | (with_reducible first | exact HB.out | apply below_alloc | apply pw_below_drewN | apply below_drew1) | exact HB.out)⟩
                        · rw [if_neg c41] at H
                          have c41b0 : decide (t197 < t191) = false := decide_eq_false c41
                          clear c41
                          have H' := Aside0.mk H
                          clear H
                          go_wp2_with (first | ((with_reducible refine gate_callee (f := 28) rfl ?_); refine goesL_ (some 153) rfl rfl Try.func28 (by kernel_rfl) rfl #[.slice Ao13 t182.length co13, .int .i64 (wrap64 (t186 * 40)), .int .i64 (wrap64 (t193 - 1))] rfl (by (try simp only [List.map_toArray, List.map_cons, List.map_nil]); first | done | rfl | (simp only [List.length_drop, List.length_take]; rfl)) ?_; (with_reducible refine (spec_PriceOfPieces.calls kj31 _ _ t182 (wrap64 (t186 * 40)) (wrap64 (t193 - 1)) t197 t198 _ ?side1 ?side2 A38.out).mono ?_); (case side1 => repeat (first | exact (Kd.R_reads' HO_5.out).2.2 | (with_reducible refine Kd.C_alloc ?_ _) | (with_reducible refine Kd.C_drewN ?_ _) | (with_reducible refine Kd.C_drew ?_))); (case side2 => exact (Kd.R_reads' HO_5.out).2.1); rintro e w43 ⟨rfl, hb⟩; refine ⟨_, rfl, ?_⟩; have n0_ := Aside0.mk (Kd.R_below (by (with_reducible repeat (first | apply Kd.R_alloc | apply Kd.R_drewN | apply Kd.R_drew)); exact HO_5.out) hb); have n1_ := Aside0.mk (below_step (by repeat (first | (with_reducible first | exact HB.out | apply below_alloc | apply pw_below_drewN | apply below_drew1) | exact HB.out)) hb); clear HO_5; clear HB; have HO_5 := n0_; have HB := n1_; clear n0_ n1_; (try clear hb); (try clear hb2); (try clear hk); (try clear hi)))
                          go_meet
                          case rel => exact ⟨_, H', ⟨by have := HJ10.out; have := HJ31.out; first | omega | exact Nat.le_refl _⟩, ⟨by repeat (first | (with_reducible first | exact HB.out | apply below_alloc | apply pw_below_drewN | apply below_drew1) | exact HB.out)⟩⟩
                      · rw [if_neg c40] at H
                        have c40b0 : decide ((wrap64 (1 + t185)) < (wrap64 (t193 - 1))) = false := decide_eq_false c40
                        clear c40
                        have H' := Aside0.mk H
                        clear H
                        go_wp2_with (first | ((with_reducible refine gate_callee (f := 28) rfl ?_); refine goesL_ (some 153) rfl rfl Try.func28 (by kernel_rfl) rfl #[.slice Ao13 t182.length co13, .int .i64 (wrap64 (t186 * 40)), .int .i64 (wrap64 (t193 - 1))] rfl (by (try simp only [List.map_toArray, List.map_cons, List.map_nil]); first | done | rfl | (simp only [List.length_drop, List.length_take]; rfl)) ?_; (with_reducible refine (spec_PriceOfPieces.calls kj31 _ _ t182 (wrap64 (t186 * 40)) (wrap64 (t193 - 1)) t197 t198 _ ?side1 ?side2 A38.out).mono ?_); (case side1 => repeat (first | exact (Kd.R_reads' HO_5.out).2.2 | (with_reducible refine Kd.C_alloc ?_ _) | (with_reducible refine Kd.C_drewN ?_ _) | (with_reducible refine Kd.C_drew ?_))); (case side2 => exact (Kd.R_reads' HO_5.out).2.1); rintro e w44 ⟨rfl, hb⟩; refine ⟨_, rfl, ?_⟩; have n0_ := Aside0.mk (Kd.R_below (by (with_reducible repeat (first | apply Kd.R_alloc | apply Kd.R_drewN | apply Kd.R_drew)); exact HO_5.out) hb); have n1_ := Aside0.mk (below_step (by repeat (first | (with_reducible first | exact HB.out | apply below_alloc | apply pw_below_drewN | apply below_drew1) | exact HB.out)) hb); clear HO_5; clear HB; have HO_5 := n0_; have HB := n1_; clear n0_ n1_; (try clear hb); (try clear hb2); (try clear hk); (try clear hi)))
                        go_meet
                        case rel => exact ⟨_, H', ⟨by have := HJ10.out; have := HJ31.out; first | omega | exact Nat.le_refl _⟩, ⟨by repeat (first | (with_reducible first | exact HB.out | apply below_alloc | apply pw_below_drewN | apply below_drew1) | exact HB.out)⟩⟩
                    · rw [if_neg c39] at H
                      have c39b0 : (t198 == 0) = false := beq_eq_false_iff_ne.mpr c39
                      have c39b1 : (t198 != 0) = true := bne_iff_ne.mpr c39
                      obtain rfl := Option.some.inj H
                      go_wp2_with (first | ((with_reducible refine gate_callee (f := 28) rfl ?_); refine goesL_ (some 153) rfl rfl Try.func28 (by kernel_rfl) rfl #[.slice Ao13 t182.length co13, .int .i64 (wrap64 (t186 * 40)), .int .i64 (wrap64 (t193 - 1))] rfl (by (try simp only [List.map_toArray, List.map_cons, List.map_nil]); first | done | rfl | (simp only [List.length_drop, List.length_take]; rfl)) ?_; (with_reducible refine (spec_PriceOfPieces.calls kj31 _ _ t182 (wrap64 (t186 * 40)) (wrap64 (t193 - 1)) t197 t198 _ ?side1 ?side2 A38.out).mono ?_); (case side1 => repeat (first | exact (Kd.R_reads' HO_5.out).2.2 | (with_reducible refine Kd.C_alloc ?_ _) | (with_reducible refine Kd.C_drewN ?_ _) | (with_reducible refine Kd.C_drew ?_))); (case side2 => exact (Kd.R_reads' HO_5.out).2.1); rintro e w45 ⟨rfl, hb⟩; refine ⟨_, rfl, ?_⟩; have n0_ := Aside0.mk (Kd.R_below (by (with_reducible repeat (first | apply Kd.R_alloc | apply Kd.R_drewN | apply Kd.R_drew)); exact HO_5.out) hb); have n1_ := Aside0.mk (below_step (by repeat (first | (with_reducible first | exact HB.out | apply below_alloc | apply pw_below_drewN | apply below_drew1) | exact HB.out)) hb); clear HO_5; clear HB; have HO_5 := n0_; have HB := n1_; clear n0_ n1_; (try clear hb); (try clear hb2); (try clear hk); (try clear hi)))
                      go_ret
                      exact ⟨by first | rfl | (simp [errW_none, errW_some] <;> rfl) | (simp [*, errW_none, errW_some] <;> rfl), by repeat (first | (with_reducible first | exact HB.out | apply below_alloc | apply pw_below_drewN | apply below_drew1) | exact HB.out)⟩
            · rw [if_neg c30] at H
              have c30b0 : (t194 == 0) = false := beq_eq_false_iff_ne.mpr c30
              have c30b1 : (t194 != 0) = true := bne_iff_ne.mpr c30
              (first | rw [c30b0] | (simp only [i64_w, i32_w]; rw [c30b0]) | skip)
              by_cases c46 : t194 = 3
              · rw [if_pos c46] at H
                have c46b0 : (t194 == 3) = true := beq_iff_eq.mpr c46
                have c46b1 : (t194 != 3) = false := bne_eq_false_iff_eq.mpr c46
                clear c46
                have H' := Aside0.mk H
                clear H
                go_wp2
                go_meet
                case rel => exact ⟨_, H', ⟨by have := HJ10.out; first | omega | exact Nat.le_refl _⟩, ⟨by repeat (first | (with_reducible first | exact HB.out | apply below_alloc | apply pw_below_drewN | apply below_drew1) | exact HB.out)⟩⟩
              · rw [if_neg c46] at H
                have c46b0 : (t194 == 3) = false := beq_eq_false_iff_ne.mpr c46
                have c46b1 : (t194 != 3) = true := bne_iff_ne.mpr c46
                obtain rfl := Option.some.inj H
                go_wp2
                go_ret
                exact ⟨by first | rfl | (simp [errW_none, errW_some] <;> rfl) | (simp [*, errW_none, errW_some] <;> rfl), by repeat (first | (with_reducible first | exact HB.out | apply below_alloc | apply pw_below_drewN | apply below_drew1) | exact HB.out)⟩
          case rest => as_aux_lemma =>
            clear HC28
            try clear c1
            try clear c2
            try clear p2
            try clear c3
            try clear c4
            try clear p6
            try clear c12
            try clear c17
            try clear c17b0
            try clear c17b1
            try clear c18
            try clear c18b0
            try clear c18b1
            try clear c19
            try clear c19b0
            try clear c20
            try clear c20b0
            try clear c21
            try clear c21b0
            try clear c22
            try clear c22b0
            try clear c22b1
            try clear c23
            try clear c23b0
            try clear c24
            try clear c24b0
            try clear c25
            try clear c25b0
            try clear c26
            try clear c27
            try clear c28
            try clear c29
            try clear c30
            try clear c30b0
            try clear c30b1
            try clear c31
            try clear c34
            try clear c34b0
            try clear c35
            try clear c35b0
            try clear c36
            try clear c36b0
            try clear c36b1
            try clear c37
            try clear c38
            try clear c39
            try clear c39b0
            try clear c39b1
            try clear c40
            try clear c40b0
            try clear c41
            try clear c41b0
            try clear c46
            try clear c46b0
            try clear c46b1
            try clear p2
            try clear p6
            obtain ⟨kq, HA, HJ27, HB⟩ := hcut
            cases kq with
            | zero => exact absurd HA.out (by simp [laws_FnPieces.j2])
            | succ kj27 =>
              have H := HA.out
              clear HA
              simp only [laws_FnPieces.j2] at H
              replace H := Option.bind_eq_some_iff.mp H
              obtain ⟨t199, A470, H⟩ := H
              replace H : ((impl_RoundPrice.f (wrap64 (t186 * 40)) (wrap64 (1 + t199))).bind fun bt200 => ((laws_a2At.f l1 3 40).bind fun t202 => ((laws_a2At.f l1 4 60).bind fun t203 => ((impl_MakingPrice.f (wrap64 (t186 * 40)) t202 (wrap64 (10 * (wrap64 (1 + t199)))) t203).bind fun bt204 => (if bt200.2 = 0 then (if (wrap64 (1 + t199)) = 0 then (none) else (if (Int.tmod bt200.1 (wrap64 (1 + t199))) = 0 then (if bt200.1 ≥ (wrap64 (t186 * 40)) then (if (wrap64 (bt200.1 - (wrap64 (t186 * 40)))) < (wrap64 (1 + t199)) then (if bt204.2 = 0 then (if (wrap64 (100 * bt204.1)) ≥ (wrap64 ((wrap64 ((wrap64 (t186 * 40)) + (wrap64 ((wrap64 (t202 * 10)) * (wrap64 (1 + t199)))))) * (wrap64 (100 + t203)))) then (some (decide ((wrap64 (100 * (wrap64 (bt204.1 - 1)))) < (wrap64 ((wrap64 ((wrap64 (t186 * 40)) + (wrap64 ((wrap64 (t202 * 10)) * (wrap64 (1 + t199)))))) * (wrap64 (100 + t203))))))) else (some false)) else (some false)) else (some false)) else (some false)) else (some false))) else (some false)))))) = some r := H
              have A47 := Aside0.mk A470
              clear A470
              replace H := Option.bind_eq_some_iff.mp H
              obtain ⟨⟨t200, t201⟩, A480, H⟩ := H
              replace H : ((laws_a2At.f l1 3 40).bind fun t202 => ((laws_a2At.f l1 4 60).bind fun t203 => ((impl_MakingPrice.f (wrap64 (t186 * 40)) t202 (wrap64 (10 * (wrap64 (1 + t199)))) t203).bind fun bt204 => (if t201 = 0 then (if (wrap64 (1 + t199)) = 0 then (none) else (if (Int.tmod t200 (wrap64 (1 + t199))) = 0 then (if t200 ≥ (wrap64 (t186 * 40)) then (if (wrap64 (t200 - (wrap64 (t186 * 40)))) < (wrap64 (1 + t199)) then (if bt204.2 = 0 then (if (wrap64 (100 * bt204.1)) ≥ (wrap64 ((wrap64 ((wrap64 (t186 * 40)) + (wrap64 ((wrap64 (t202 * 10)) * (wrap64 (1 + t199)))))) * (wrap64 (100 + t203)))) then (some (decide ((wrap64 (100 * (wrap64 (bt204.1 - 1)))) < (wrap64 ((wrap64 ((wrap64 (t186 * 40)) + (wrap64 ((wrap64 (t202 * 10)) * (wrap64 (1 + t199)))))) * (wrap64 (100 + t203))))))) else (some false)) else (some false)) else (some false)) else (some false)) else (some false))) else (some false))))) = some r := H
              have A48 := Aside0.mk A480
              clear A480
              replace H := Option.bind_eq_some_iff.mp H
              obtain ⟨t202, A490, H⟩ := H
              replace H : ((laws_a2At.f l1 4 60).bind fun t203 => ((impl_MakingPrice.f (wrap64 (t186 * 40)) t202 (wrap64 (10 * (wrap64 (1 + t199)))) t203).bind fun bt204 => (if t201 = 0 then (if (wrap64 (1 + t199)) = 0 then (none) else (if (Int.tmod t200 (wrap64 (1 + t199))) = 0 then (if t200 ≥ (wrap64 (t186 * 40)) then (if (wrap64 (t200 - (wrap64 (t186 * 40)))) < (wrap64 (1 + t199)) then (if bt204.2 = 0 then (if (wrap64 (100 * bt204.1)) ≥ (wrap64 ((wrap64 ((wrap64 (t186 * 40)) + (wrap64 ((wrap64 (t202 * 10)) * (wrap64 (1 + t199)))))) * (wrap64 (100 + t203)))) then (some (decide ((wrap64 (100 * (wrap64 (bt204.1 - 1)))) < (wrap64 ((wrap64 ((wrap64 (t186 * 40)) + (wrap64 ((wrap64 (t202 * 10)) * (wrap64 (1 + t199)))))) * (wrap64 (100 + t203))))))) else (some false)) else (some false)) else (some false)) else (some false)) else (some false))) else (some false)))) = some r := H
              have A49 := Aside0.mk A490
              clear A490
              replace H := Option.bind_eq_some_iff.mp H
              obtain ⟨t203, A500, H⟩ := H
              replace H : ((impl_MakingPrice.f (wrap64 (t186 * 40)) t202 (wrap64 (10 * (wrap64 (1 + t199)))) t203).bind fun bt204 => (if t201 = 0 then (if (wrap64 (1 + t199)) = 0 then (none) else (if (Int.tmod t200 (wrap64 (1 + t199))) = 0 then (if t200 ≥ (wrap64 (t186 * 40)) then (if (wrap64 (t200 - (wrap64 (t186 * 40)))) < (wrap64 (1 + t199)) then (if bt204.2 = 0 then (if (wrap64 (100 * bt204.1)) ≥ (wrap64 ((wrap64 ((wrap64 (t186 * 40)) + (wrap64 ((wrap64 (t202 * 10)) * (wrap64 (1 + t199)))))) * (wrap64 (100 + t203)))) then (some (decide ((wrap64 (100 * (wrap64 (bt204.1 - 1)))) < (wrap64 ((wrap64 ((wrap64 (t186 * 40)) + (wrap64 ((wrap64 (t202 * 10)) * (wrap64 (1 + t199)))))) * (wrap64 (100 + t203))))))) else (some false)) else (some false)) else (some false)) else (some false)) else (some false))) else (some false))) = some r := H
              have A50 := Aside0.mk A500
              clear A500
              replace H := Option.bind_eq_some_iff.mp H
              obtain ⟨⟨t204, t205⟩, A510, H⟩ := H
              replace H : (if t201 = 0 then (if (wrap64 (1 + t199)) = 0 then (none) else (if (Int.tmod t200 (wrap64 (1 + t199))) = 0 then (if t200 ≥ (wrap64 (t186 * 40)) then (if (wrap64 (t200 - (wrap64 (t186 * 40)))) < (wrap64 (1 + t199)) then (if t205 = 0 then (if (wrap64 (100 * t204)) ≥ (wrap64 ((wrap64 ((wrap64 (t186 * 40)) + (wrap64 ((wrap64 (t202 * 10)) * (wrap64 (1 + t199)))))) * (wrap64 (100 + t203)))) then (some (decide ((wrap64 (100 * (wrap64 (t204 - 1)))) < (wrap64 ((wrap64 ((wrap64 (t186 * 40)) + (wrap64 ((wrap64 (t202 * 10)) * (wrap64 (1 + t199)))))) * (wrap64 (100 + t203))))))) else (some false)) else (some false)) else (some false)) else (some false)) else (some false))) else (some false)) = some r := H
              have A51 := Aside0.mk A510
              clear A510
              by_cases c52 : t201 = 0
              · rw [if_pos c52] at H
                have c52b0 : (t201 == 0) = true := beq_iff_eq.mpr c52
                have c52b1 : (t201 != 0) = false := bne_eq_false_iff_eq.mpr c52
                clear c52
                by_cases c53 : (wrap64 (1 + t199)) = 0
                · rw [if_pos c53] at H
                  exact absurd H (by simp)
                · rw [if_neg c53] at H
                  have c53b0 : ((wrap64 (1 + t199)) == 0) = false := beq_eq_false_iff_ne.mpr c53
                  have c53b1 : ((wrap64 (1 + t199)) != 0) = true := bne_iff_ne.mpr c53
                  by_cases c54 : (Int.tmod t200 (wrap64 (1 + t199))) = 0
                  · rw [if_pos c54] at H
                    have c54b0 : ((Int.tmod t200 (wrap64 (1 + t199))) == 0) = true := beq_iff_eq.mpr c54
                    have c54b1 : ((Int.tmod t200 (wrap64 (1 + t199))) != 0) = false := bne_eq_false_iff_eq.mpr c54
                    clear c54
                    by_cases c55 : t200 ≥ (wrap64 (t186 * 40))
                    · rw [if_pos c55] at H
                      have c55b0 : decide ((wrap64 (t186 * 40)) ≤ t200) = true := decide_eq_true c55
                      clear c55
                      by_cases c56 : (wrap64 (t200 - (wrap64 (t186 * 40)))) < (wrap64 (1 + t199))
                      · rw [if_pos c56] at H
                        have c56b0 : decide ((wrap64 (t200 - (wrap64 (t186 * 40)))) < (wrap64 (1 + t199))) = true := decide_eq_true c56
                        clear c56
                        by_cases c57 : t205 = 0
                        · rw [if_pos c57] at H
                          have c57b0 : (t205 == 0) = true := beq_iff_eq.mpr c57
                          have c57b1 : (t205 != 0) = false := bne_eq_false_iff_eq.mpr c57
                          clear c57
                          by_cases c58 : (wrap64 (100 * t204)) ≥ (wrap64 ((wrap64 ((wrap64 (t186 * 40)) + (wrap64 ((wrap64 (t202 * 10)) * (wrap64 (1 + t199)))))) * (wrap64 (100 + t203))))
                          · rw [if_pos c58] at H
                            have c58b0 : decide ((wrap64 ((wrap64 ((wrap64 (t186 * 40)) + (wrap64 ((wrap64 (t202 * 10)) * (wrap64 (1 + t199)))))) * (wrap64 (100 + t203)))) ≤ (wrap64 (100 * t204))) = true := decide_eq_true c58
                            clear c58
                            obtain rfl := Option.some.inj H
                            go_wp2_with (first | ((with_reducible refine gate_callee (f := 40) rfl ?_); refine goesL_ (some 172) rfl rfl Try.func40 (by kernel_rfl) rfl #[.slice A1 l1.length c1, .int .i64 2, .int .i64 200] rfl (by (try simp only [List.map_toArray, List.map_cons, List.map_nil]); first | done | rfl | (simp only [List.length_drop, List.length_take]; rfl)) ?_; (with_reducible refine (laws_a2At.calls _ _ l1 2 200 t199 _ ?side1 ?side2 A47.out).mono ?_); (case side1 => repeat (first | exact (Kd.C_below HR1.out HB.out) | (with_reducible refine Kd.C_alloc ?_ _) | (with_reducible refine Kd.C_drewN ?_ _) | (with_reducible refine Kd.C_drew ?_))); (case side2 => exact HC1.out); rintro e w' ⟨rfl, ⟨nd, rfl⟩⟩; refine ⟨_, rfl, ?_⟩) | ((with_reducible refine gate_callee (f := 16) rfl ?_); refine goesL_ (some 177) rfl rfl Try.func16 (by kernel_rfl) rfl #[.int .i64 (wrap64 (t186 * 40)), .int .i64 (wrap64 (1 + t199))] rfl (by (try simp only [List.map_toArray, List.map_cons, List.map_nil]); first | done | rfl | (simp only [List.length_drop, List.length_take]; rfl)) ?_; (with_reducible refine (impl_RoundPrice.calls (wrap64 (t186 * 40)) (wrap64 (1 + t199)) t200 t201 _ A48.out).mono ?_); rintro e w' ⟨rfl, ⟨nd, rfl⟩⟩; refine ⟨_, rfl, ?_⟩) | ((with_reducible refine gate_callee (f := 40) rfl ?_); refine goesL_ (some 181) rfl rfl Try.func40 (by kernel_rfl) rfl #[.slice A1 l1.length c1, .int .i64 3, .int .i64 40] rfl (by (try simp only [List.map_toArray, List.map_cons, List.map_nil]); first | done | rfl | (simp only [List.length_drop, List.length_take]; rfl)) ?_; (with_reducible refine (laws_a2At.calls _ _ l1 3 40 t202 _ ?side1 ?side2 A49.out).mono ?_); (case side1 => repeat (first | exact (Kd.C_below HR1.out (by repeat (first | (with_reducible first | exact HB.out | apply below_alloc | apply pw_below_drewN | apply below_drew1) | exact HB.out))) | (with_reducible refine Kd.C_alloc ?_ _) | (with_reducible refine Kd.C_drewN ?_ _) | (with_reducible refine Kd.C_drew ?_))); (case side2 => exact HC1.out); rintro e w' ⟨rfl, ⟨nd, rfl⟩⟩; refine ⟨_, rfl, ?_⟩) | ((with_reducible refine gate_callee (f := 40) rfl ?_); refine goesL_ (some 183) rfl rfl Try.func40 (by kernel_rfl) rfl #[.slice A1 l1.length c1, .int .i64 4, .int .i64 60] rfl (by (try simp only [List.map_toArray, List.map_cons, List.map_nil]); first | done | rfl | (simp only [List.length_drop, List.length_take]; rfl)) ?_; (with_reducible refine (laws_a2At.calls _ _ l1 4 60 t203 _ ?side1 ?side2 A50.out).mono ?_); (case side1 => repeat (first | exact (Kd.C_below HR1.out (by repeat (first | (with_reducible first | exact HB.out | apply below_alloc | apply pw_below_drewN | apply below_drew1) | exact HB.out))) | (with_reducible refine Kd.C_alloc ?_ _) | (with_reducible refine Kd.C_drewN ?_ _) | (with_reducible refine Kd.C_drew ?_))); (case side2 => exact HC1.out); rintro e w' ⟨rfl, ⟨nd, rfl⟩⟩; refine ⟨_, rfl, ?_⟩) | ((with_reducible refine gate_callee (f := 18) rfl ?_); refine goesL_ (some 190) rfl rfl Try.func18 (by kernel_rfl) rfl #[.int .i64 (wrap64 (t186 * 40)), .int .i64 t202, .int .i64 (wrap64 (10 * (wrap64 (1 + t199)))), .int .i64 t203] rfl (by (try simp only [List.map_toArray, List.map_cons, List.map_nil]); first | done | rfl | (simp only [List.length_drop, List.length_take]; rfl)) ?_; (with_reducible refine (impl_MakingPrice.calls (wrap64 (t186 * 40)) t202 (wrap64 (10 * (wrap64 (1 + t199)))) t203 t204 t205 _ A51.out).mono ?_); rintro e w' ⟨rfl, ⟨nd, rfl⟩⟩; refine ⟨_, rfl, ?_⟩))
                            go_ret
                            exact ⟨by first | rfl | (simp [errW_none, errW_some] <;> rfl) | (simp [*, errW_none, errW_some] <;> rfl), by repeat (first | (with_reducible first | exact HB.out | apply below_alloc | apply pw_below_drewN | apply below_drew1) | exact HB.out)⟩
                          · rw [if_neg c58] at H
                            have c58b0 : decide ((wrap64 ((wrap64 ((wrap64 (t186 * 40)) + (wrap64 ((wrap64 (t202 * 10)) * (wrap64 (1 + t199)))))) * (wrap64 (100 + t203)))) ≤ (wrap64 (100 * t204))) = false := decide_eq_false c58
                            clear c58
                            obtain rfl := Option.some.inj H
                            go_wp2_with (first | ((with_reducible refine gate_callee (f := 40) rfl ?_); refine goesL_ (some 172) rfl rfl Try.func40 (by kernel_rfl) rfl #[.slice A1 l1.length c1, .int .i64 2, .int .i64 200] rfl (by (try simp only [List.map_toArray, List.map_cons, List.map_nil]); first | done | rfl | (simp only [List.length_drop, List.length_take]; rfl)) ?_; (with_reducible refine (laws_a2At.calls _ _ l1 2 200 t199 _ ?side1 ?side2 A47.out).mono ?_); (case side1 => repeat (first | exact (Kd.C_below HR1.out HB.out) | (with_reducible refine Kd.C_alloc ?_ _) | (with_reducible refine Kd.C_drewN ?_ _) | (with_reducible refine Kd.C_drew ?_))); (case side2 => exact HC1.out); rintro e w' ⟨rfl, ⟨nd, rfl⟩⟩; refine ⟨_, rfl, ?_⟩) | ((with_reducible refine gate_callee (f := 16) rfl ?_); refine goesL_ (some 177) rfl rfl Try.func16 (by kernel_rfl) rfl #[.int .i64 (wrap64 (t186 * 40)), .int .i64 (wrap64 (1 + t199))] rfl (by (try simp only [List.map_toArray, List.map_cons, List.map_nil]); first | done | rfl | (simp only [List.length_drop, List.length_take]; rfl)) ?_; (with_reducible refine (impl_RoundPrice.calls (wrap64 (t186 * 40)) (wrap64 (1 + t199)) t200 t201 _ A48.out).mono ?_); rintro e w' ⟨rfl, ⟨nd, rfl⟩⟩; refine ⟨_, rfl, ?_⟩) | ((with_reducible refine gate_callee (f := 40) rfl ?_); refine goesL_ (some 181) rfl rfl Try.func40 (by kernel_rfl) rfl #[.slice A1 l1.length c1, .int .i64 3, .int .i64 40] rfl (by (try simp only [List.map_toArray, List.map_cons, List.map_nil]); first | done | rfl | (simp only [List.length_drop, List.length_take]; rfl)) ?_; (with_reducible refine (laws_a2At.calls _ _ l1 3 40 t202 _ ?side1 ?side2 A49.out).mono ?_); (case side1 => repeat (first | exact (Kd.C_below HR1.out (by repeat (first | (with_reducible first | exact HB.out | apply below_alloc | apply pw_below_drewN | apply below_drew1) | exact HB.out))) | (with_reducible refine Kd.C_alloc ?_ _) | (with_reducible refine Kd.C_drewN ?_ _) | (with_reducible refine Kd.C_drew ?_))); (case side2 => exact HC1.out); rintro e w' ⟨rfl, ⟨nd, rfl⟩⟩; refine ⟨_, rfl, ?_⟩) | ((with_reducible refine gate_callee (f := 40) rfl ?_); refine goesL_ (some 183) rfl rfl Try.func40 (by kernel_rfl) rfl #[.slice A1 l1.length c1, .int .i64 4, .int .i64 60] rfl (by (try simp only [List.map_toArray, List.map_cons, List.map_nil]); first | done | rfl | (simp only [List.length_drop, List.length_take]; rfl)) ?_; (with_reducible refine (laws_a2At.calls _ _ l1 4 60 t203 _ ?side1 ?side2 A50.out).mono ?_); (case side1 => repeat (first | exact (Kd.C_below HR1.out (by repeat (first | (with_reducible first | exact HB.out | apply below_alloc | apply pw_below_drewN | apply below_drew1) | exact HB.out))) | (with_reducible refine Kd.C_alloc ?_ _) | (with_reducible refine Kd.C_drewN ?_ _) | (with_reducible refine Kd.C_drew ?_))); (case side2 => exact HC1.out); rintro e w' ⟨rfl, ⟨nd, rfl⟩⟩; refine ⟨_, rfl, ?_⟩) | ((with_reducible refine gate_callee (f := 18) rfl ?_); refine goesL_ (some 190) rfl rfl Try.func18 (by kernel_rfl) rfl #[.int .i64 (wrap64 (t186 * 40)), .int .i64 t202, .int .i64 (wrap64 (10 * (wrap64 (1 + t199)))), .int .i64 t203] rfl (by (try simp only [List.map_toArray, List.map_cons, List.map_nil]); first | done | rfl | (simp only [List.length_drop, List.length_take]; rfl)) ?_; (with_reducible refine (impl_MakingPrice.calls (wrap64 (t186 * 40)) t202 (wrap64 (10 * (wrap64 (1 + t199)))) t203 t204 t205 _ A51.out).mono ?_); rintro e w' ⟨rfl, ⟨nd, rfl⟩⟩; refine ⟨_, rfl, ?_⟩))
                            go_ret
                            exact ⟨by first | rfl | (simp [errW_none, errW_some] <;> rfl) | (simp [*, errW_none, errW_some] <;> rfl), by repeat (first | (with_reducible first | exact HB.out | apply below_alloc | apply pw_below_drewN | apply below_drew1) | exact HB.out)⟩
                        · rw [if_neg c57] at H
                          have c57b0 : (t205 == 0) = false := beq_eq_false_iff_ne.mpr c57
                          have c57b1 : (t205 != 0) = true := bne_iff_ne.mpr c57
                          obtain rfl := Option.some.inj H
                          go_wp2_with (first | ((with_reducible refine gate_callee (f := 40) rfl ?_); refine goesL_ (some 172) rfl rfl Try.func40 (by kernel_rfl) rfl #[.slice A1 l1.length c1, .int .i64 2, .int .i64 200] rfl (by (try simp only [List.map_toArray, List.map_cons, List.map_nil]); first | done | rfl | (simp only [List.length_drop, List.length_take]; rfl)) ?_; (with_reducible refine (laws_a2At.calls _ _ l1 2 200 t199 _ ?side1 ?side2 A47.out).mono ?_); (case side1 => repeat (first | exact (Kd.C_below HR1.out HB.out) | (with_reducible refine Kd.C_alloc ?_ _) | (with_reducible refine Kd.C_drewN ?_ _) | (with_reducible refine Kd.C_drew ?_))); (case side2 => exact HC1.out); rintro e w' ⟨rfl, ⟨nd, rfl⟩⟩; refine ⟨_, rfl, ?_⟩) | ((with_reducible refine gate_callee (f := 16) rfl ?_); refine goesL_ (some 177) rfl rfl Try.func16 (by kernel_rfl) rfl #[.int .i64 (wrap64 (t186 * 40)), .int .i64 (wrap64 (1 + t199))] rfl (by (try simp only [List.map_toArray, List.map_cons, List.map_nil]); first | done | rfl | (simp only [List.length_drop, List.length_take]; rfl)) ?_; (with_reducible refine (impl_RoundPrice.calls (wrap64 (t186 * 40)) (wrap64 (1 + t199)) t200 t201 _ A48.out).mono ?_); rintro e w' ⟨rfl, ⟨nd, rfl⟩⟩; refine ⟨_, rfl, ?_⟩) | ((with_reducible refine gate_callee (f := 40) rfl ?_); refine goesL_ (some 181) rfl rfl Try.func40 (by kernel_rfl) rfl #[.slice A1 l1.length c1, .int .i64 3, .int .i64 40] rfl (by (try simp only [List.map_toArray, List.map_cons, List.map_nil]); first | done | rfl | (simp only [List.length_drop, List.length_take]; rfl)) ?_; (with_reducible refine (laws_a2At.calls _ _ l1 3 40 t202 _ ?side1 ?side2 A49.out).mono ?_); (case side1 => repeat (first | exact (Kd.C_below HR1.out (by repeat (first | (with_reducible first | exact HB.out | apply below_alloc | apply pw_below_drewN | apply below_drew1) | exact HB.out))) | (with_reducible refine Kd.C_alloc ?_ _) | (with_reducible refine Kd.C_drewN ?_ _) | (with_reducible refine Kd.C_drew ?_))); (case side2 => exact HC1.out); rintro e w' ⟨rfl, ⟨nd, rfl⟩⟩; refine ⟨_, rfl, ?_⟩) | ((with_reducible refine gate_callee (f := 40) rfl ?_); refine goesL_ (some 183) rfl rfl Try.func40 (by kernel_rfl) rfl #[.slice A1 l1.length c1, .int .i64 4, .int .i64 60] rfl (by (try simp only [List.map_toArray, List.map_cons, List.map_nil]); first | done | rfl | (simp only [List.length_drop, List.length_take]; rfl)) ?_; (with_reducible refine (laws_a2At.calls _ _ l1 4 60 t203 _ ?side1 ?side2 A50.out).mono ?_); (case side1 => repeat (first | exact (Kd.C_below HR1.out (by repeat (first | (with_reducible first | exact HB.out | apply below_alloc | apply pw_below_drewN | apply below_drew1) | exact HB.out))) | (with_reducible refine Kd.C_alloc ?_ _) | (with_reducible refine Kd.C_drewN ?_ _) | (with_reducible refine Kd.C_drew ?_))); (case side2 => exact HC1.out); rintro e w' ⟨rfl, ⟨nd, rfl⟩⟩; refine ⟨_, rfl, ?_⟩) | ((with_reducible refine gate_callee (f := 18) rfl ?_); refine goesL_ (some 190) rfl rfl Try.func18 (by kernel_rfl) rfl #[.int .i64 (wrap64 (t186 * 40)), .int .i64 t202, .int .i64 (wrap64 (10 * (wrap64 (1 + t199)))), .int .i64 t203] rfl (by (try simp only [List.map_toArray, List.map_cons, List.map_nil]); first | done | rfl | (simp only [List.length_drop, List.length_take]; rfl)) ?_; (with_reducible refine (impl_MakingPrice.calls (wrap64 (t186 * 40)) t202 (wrap64 (10 * (wrap64 (1 + t199)))) t203 t204 t205 _ A51.out).mono ?_); rintro e w' ⟨rfl, ⟨nd, rfl⟩⟩; refine ⟨_, rfl, ?_⟩))
                          go_ret
                          exact ⟨by first | rfl | (simp [errW_none, errW_some] <;> rfl) | (simp [*, errW_none, errW_some] <;> rfl), by repeat (first | (with_reducible first | exact HB.out | apply below_alloc | apply pw_below_drewN | apply below_drew1) | exact HB.out)⟩
                      · rw [if_neg c56] at H
                        have c56b0 : decide ((wrap64 (t200 - (wrap64 (t186 * 40)))) < (wrap64 (1 + t199))) = false := decide_eq_false c56
                        clear c56
                        obtain rfl := Option.some.inj H
                        go_wp2_with (first | ((with_reducible refine gate_callee (f := 40) rfl ?_); refine goesL_ (some 172) rfl rfl Try.func40 (by kernel_rfl) rfl #[.slice A1 l1.length c1, .int .i64 2, .int .i64 200] rfl (by (try simp only [List.map_toArray, List.map_cons, List.map_nil]); first | done | rfl | (simp only [List.length_drop, List.length_take]; rfl)) ?_; (with_reducible refine (laws_a2At.calls _ _ l1 2 200 t199 _ ?side1 ?side2 A47.out).mono ?_); (case side1 => repeat (first | exact (Kd.C_below HR1.out HB.out) | (with_reducible refine Kd.C_alloc ?_ _) | (with_reducible refine Kd.C_drewN ?_ _) | (with_reducible refine Kd.C_drew ?_))); (case side2 => exact HC1.out); rintro e w' ⟨rfl, ⟨nd, rfl⟩⟩; refine ⟨_, rfl, ?_⟩) | ((with_reducible refine gate_callee (f := 16) rfl ?_); refine goesL_ (some 177) rfl rfl Try.func16 (by kernel_rfl) rfl #[.int .i64 (wrap64 (t186 * 40)), .int .i64 (wrap64 (1 + t199))] rfl (by (try simp only [List.map_toArray, List.map_cons, List.map_nil]); first | done | rfl | (simp only [List.length_drop, List.length_take]; rfl)) ?_; (with_reducible refine (impl_RoundPrice.calls (wrap64 (t186 * 40)) (wrap64 (1 + t199)) t200 t201 _ A48.out).mono ?_); rintro e w' ⟨rfl, ⟨nd, rfl⟩⟩; refine ⟨_, rfl, ?_⟩) | ((with_reducible refine gate_callee (f := 40) rfl ?_); refine goesL_ (some 181) rfl rfl Try.func40 (by kernel_rfl) rfl #[.slice A1 l1.length c1, .int .i64 3, .int .i64 40] rfl (by (try simp only [List.map_toArray, List.map_cons, List.map_nil]); first | done | rfl | (simp only [List.length_drop, List.length_take]; rfl)) ?_; (with_reducible refine (laws_a2At.calls _ _ l1 3 40 t202 _ ?side1 ?side2 A49.out).mono ?_); (case side1 => repeat (first | exact (Kd.C_below HR1.out (by repeat (first | (with_reducible first | exact HB.out | apply below_alloc | apply pw_below_drewN | apply below_drew1) | exact HB.out))) | (with_reducible refine Kd.C_alloc ?_ _) | (with_reducible refine Kd.C_drewN ?_ _) | (with_reducible refine Kd.C_drew ?_))); (case side2 => exact HC1.out); rintro e w' ⟨rfl, ⟨nd, rfl⟩⟩; refine ⟨_, rfl, ?_⟩) | ((with_reducible refine gate_callee (f := 40) rfl ?_); refine goesL_ (some 183) rfl rfl Try.func40 (by kernel_rfl) rfl #[.slice A1 l1.length c1, .int .i64 4, .int .i64 60] rfl (by (try simp only [List.map_toArray, List.map_cons, List.map_nil]); first | done | rfl | (simp only [List.length_drop, List.length_take]; rfl)) ?_; (with_reducible refine (laws_a2At.calls _ _ l1 4 60 t203 _ ?side1 ?side2 A50.out).mono ?_); (case side1 => repeat (first | exact (Kd.C_below HR1.out (by repeat (first | (with_reducible first | exact HB.out | apply below_alloc | apply pw_below_drewN | apply below_drew1) | exact HB.out))) | (with_reducible refine Kd.C_alloc ?_ _) | (with_reducible refine Kd.C_drewN ?_ _) | (with_reducible refine Kd.C_drew ?_))); (case side2 => exact HC1.out); rintro e w' ⟨rfl, ⟨nd, rfl⟩⟩; refine ⟨_, rfl, ?_⟩) | ((with_reducible refine gate_callee (f := 18) rfl ?_); refine goesL_ (some 190) rfl rfl Try.func18 (by kernel_rfl) rfl #[.int .i64 (wrap64 (t186 * 40)), .int .i64 t202, .int .i64 (wrap64 (10 * (wrap64 (1 + t199)))), .int .i64 t203] rfl (by (try simp only [List.map_toArray, List.map_cons, List.map_nil]); first | done | rfl | (simp only [List.length_drop, List.length_take]; rfl)) ?_; (with_reducible refine (impl_MakingPrice.calls (wrap64 (t186 * 40)) t202 (wrap64 (10 * (wrap64 (1 + t199)))) t203 t204 t205 _ A51.out).mono ?_); rintro e w' ⟨rfl, ⟨nd, rfl⟩⟩; refine ⟨_, rfl, ?_⟩))
                        go_ret
                        exact ⟨by first | rfl | (simp [errW_none, errW_some] <;> rfl) | (simp [*, errW_none, errW_some] <;> rfl), by repeat (first | (with_reducible first | exact HB.out | apply below_alloc | apply pw_below_drewN | apply below_drew1) | exact HB.out)⟩
                    · rw [if_neg c55] at H
                      have c55b0 : decide ((wrap64 (t186 * 40)) ≤ t200) = false := decide_eq_false c55
                      clear c55
                      obtain rfl := Option.some.inj H
                      go_wp2_with (first | ((with_reducible refine gate_callee (f := 40) rfl ?_); refine goesL_ (some 172) rfl rfl Try.func40 (by kernel_rfl) rfl #[.slice A1 l1.length c1, .int .i64 2, .int .i64 200] rfl (by (try simp only [List.map_toArray, List.map_cons, List.map_nil]); first | done | rfl | (simp only [List.length_drop, List.length_take]; rfl)) ?_; (with_reducible refine (laws_a2At.calls _ _ l1 2 200 t199 _ ?side1 ?side2 A47.out).mono ?_); (case side1 => repeat (first | exact (Kd.C_below HR1.out HB.out) | (with_reducible refine Kd.C_alloc ?_ _) | (with_reducible refine Kd.C_drewN ?_ _) | (with_reducible refine Kd.C_drew ?_))); (case side2 => exact HC1.out); rintro e w' ⟨rfl, ⟨nd, rfl⟩⟩; refine ⟨_, rfl, ?_⟩) | ((with_reducible refine gate_callee (f := 16) rfl ?_); refine goesL_ (some 177) rfl rfl Try.func16 (by kernel_rfl) rfl #[.int .i64 (wrap64 (t186 * 40)), .int .i64 (wrap64 (1 + t199))] rfl (by (try simp only [List.map_toArray, List.map_cons, List.map_nil]); first | done | rfl | (simp only [List.length_drop, List.length_take]; rfl)) ?_; (with_reducible refine (impl_RoundPrice.calls (wrap64 (t186 * 40)) (wrap64 (1 + t199)) t200 t201 _ A48.out).mono ?_); rintro e w' ⟨rfl, ⟨nd, rfl⟩⟩; refine ⟨_, rfl, ?_⟩) | ((with_reducible refine gate_callee (f := 40) rfl ?_); refine goesL_ (some 181) rfl rfl Try.func40 (by kernel_rfl) rfl #[.slice A1 l1.length c1, .int .i64 3, .int .i64 40] rfl (by (try simp only [List.map_toArray, List.map_cons, List.map_nil]); first | done | rfl | (simp only [List.length_drop, List.length_take]; rfl)) ?_; (with_reducible refine (laws_a2At.calls _ _ l1 3 40 t202 _ ?side1 ?side2 A49.out).mono ?_); (case side1 => repeat (first | exact (Kd.C_below HR1.out (by repeat (first | (with_reducible first | exact HB.out | apply below_alloc | apply pw_below_drewN | apply below_drew1) | exact HB.out))) | (with_reducible refine Kd.C_alloc ?_ _) | (with_reducible refine Kd.C_drewN ?_ _) | (with_reducible refine Kd.C_drew ?_))); (case side2 => exact HC1.out); rintro e w' ⟨rfl, ⟨nd, rfl⟩⟩; refine ⟨_, rfl, ?_⟩) | ((with_reducible refine gate_callee (f := 40) rfl ?_); refine goesL_ (some 183) rfl rfl Try.func40 (by kernel_rfl) rfl #[.slice A1 l1.length c1, .int .i64 4, .int .i64 60] rfl (by (try simp only [List.map_toArray, List.map_cons, List.map_nil]); first | done | rfl | (simp only [List.length_drop, List.length_take]; rfl)) ?_; (with_reducible refine (laws_a2At.calls _ _ l1 4 60 t203 _ ?side1 ?side2 A50.out).mono ?_); (case side1 => repeat (first | exact (Kd.C_below HR1.out (by repeat (first | (with_reducible first | exact HB.out | apply below_alloc | apply pw_below_drewN | apply below_drew1) | exact HB.out))) | (with_reducible refine Kd.C_alloc ?_ _) | (with_reducible refine Kd.C_drewN ?_ _) | (with_reducible refine Kd.C_drew ?_))); (case side2 => exact HC1.out); rintro e w' ⟨rfl, ⟨nd, rfl⟩⟩; refine ⟨_, rfl, ?_⟩) | ((with_reducible refine gate_callee (f := 18) rfl ?_); refine goesL_ (some 190) rfl rfl Try.func18 (by kernel_rfl) rfl #[.int .i64 (wrap64 (t186 * 40)), .int .i64 t202, .int .i64 (wrap64 (10 * (wrap64 (1 + t199)))), .int .i64 t203] rfl (by (try simp only [List.map_toArray, List.map_cons, List.map_nil]); first | done | rfl | (simp only [List.length_drop, List.length_take]; rfl)) ?_; (with_reducible refine (impl_MakingPrice.calls (wrap64 (t186 * 40)) t202 (wrap64 (10 * (wrap64 (1 + t199)))) t203 t204 t205 _ A51.out).mono ?_); rintro e w' ⟨rfl, ⟨nd, rfl⟩⟩; refine ⟨_, rfl, ?_⟩))
                      go_ret
                      exact ⟨by first | rfl | (simp [errW_none, errW_some] <;> rfl) | (simp [*, errW_none, errW_some] <;> rfl), by repeat (first | (with_reducible first | exact HB.out | apply below_alloc | apply pw_below_drewN | apply below_drew1) | exact HB.out)⟩
                  · rw [if_neg c54] at H
                    have c54b0 : ((Int.tmod t200 (wrap64 (1 + t199))) == 0) = false := beq_eq_false_iff_ne.mpr c54
                    have c54b1 : ((Int.tmod t200 (wrap64 (1 + t199))) != 0) = true := bne_iff_ne.mpr c54
                    obtain rfl := Option.some.inj H
                    go_wp2_with (first | ((with_reducible refine gate_callee (f := 40) rfl ?_); refine goesL_ (some 172) rfl rfl Try.func40 (by kernel_rfl) rfl #[.slice A1 l1.length c1, .int .i64 2, .int .i64 200] rfl (by (try simp only [List.map_toArray, List.map_cons, List.map_nil]); first | done | rfl | (simp only [List.length_drop, List.length_take]; rfl)) ?_; (with_reducible refine (laws_a2At.calls _ _ l1 2 200 t199 _ ?side1 ?side2 A47.out).mono ?_); (case side1 => repeat (first | exact (Kd.C_below HR1.out HB.out) | (with_reducible refine Kd.C_alloc ?_ _) | (with_reducible refine Kd.C_drewN ?_ _) | (with_reducible refine Kd.C_drew ?_))); (case side2 => exact HC1.out); rintro e w' ⟨rfl, ⟨nd, rfl⟩⟩; refine ⟨_, rfl, ?_⟩) | ((with_reducible refine gate_callee (f := 16) rfl ?_); refine goesL_ (some 177) rfl rfl Try.func16 (by kernel_rfl) rfl #[.int .i64 (wrap64 (t186 * 40)), .int .i64 (wrap64 (1 + t199))] rfl (by (try simp only [List.map_toArray, List.map_cons, List.map_nil]); first | done | rfl | (simp only [List.length_drop, List.length_take]; rfl)) ?_; (with_reducible refine (impl_RoundPrice.calls (wrap64 (t186 * 40)) (wrap64 (1 + t199)) t200 t201 _ A48.out).mono ?_); rintro e w' ⟨rfl, ⟨nd, rfl⟩⟩; refine ⟨_, rfl, ?_⟩) | ((with_reducible refine gate_callee (f := 40) rfl ?_); refine goesL_ (some 181) rfl rfl Try.func40 (by kernel_rfl) rfl #[.slice A1 l1.length c1, .int .i64 3, .int .i64 40] rfl (by (try simp only [List.map_toArray, List.map_cons, List.map_nil]); first | done | rfl | (simp only [List.length_drop, List.length_take]; rfl)) ?_; (with_reducible refine (laws_a2At.calls _ _ l1 3 40 t202 _ ?side1 ?side2 A49.out).mono ?_); (case side1 => repeat (first | exact (Kd.C_below HR1.out (by repeat (first | (with_reducible first | exact HB.out | apply below_alloc | apply pw_below_drewN | apply below_drew1) | exact HB.out))) | (with_reducible refine Kd.C_alloc ?_ _) | (with_reducible refine Kd.C_drewN ?_ _) | (with_reducible refine Kd.C_drew ?_))); (case side2 => exact HC1.out); rintro e w' ⟨rfl, ⟨nd, rfl⟩⟩; refine ⟨_, rfl, ?_⟩) | ((with_reducible refine gate_callee (f := 40) rfl ?_); refine goesL_ (some 183) rfl rfl Try.func40 (by kernel_rfl) rfl #[.slice A1 l1.length c1, .int .i64 4, .int .i64 60] rfl (by (try simp only [List.map_toArray, List.map_cons, List.map_nil]); first | done | rfl | (simp only [List.length_drop, List.length_take]; rfl)) ?_; (with_reducible refine (laws_a2At.calls _ _ l1 4 60 t203 _ ?side1 ?side2 A50.out).mono ?_); (case side1 => repeat (first | exact (Kd.C_below HR1.out (by repeat (first | (with_reducible first | exact HB.out | apply below_alloc | apply pw_below_drewN | apply below_drew1) | exact HB.out))) | (with_reducible refine Kd.C_alloc ?_ _) | (with_reducible refine Kd.C_drewN ?_ _) | (with_reducible refine Kd.C_drew ?_))); (case side2 => exact HC1.out); rintro e w' ⟨rfl, ⟨nd, rfl⟩⟩; refine ⟨_, rfl, ?_⟩) | ((with_reducible refine gate_callee (f := 18) rfl ?_); refine goesL_ (some 190) rfl rfl Try.func18 (by kernel_rfl) rfl #[.int .i64 (wrap64 (t186 * 40)), .int .i64 t202, .int .i64 (wrap64 (10 * (wrap64 (1 + t199)))), .int .i64 t203] rfl (by (try simp only [List.map_toArray, List.map_cons, List.map_nil]); first | done | rfl | (simp only [List.length_drop, List.length_take]; rfl)) ?_; (with_reducible refine (impl_MakingPrice.calls (wrap64 (t186 * 40)) t202 (wrap64 (10 * (wrap64 (1 + t199)))) t203 t204 t205 _ A51.out).mono ?_); rintro e w' ⟨rfl, ⟨nd, rfl⟩⟩; refine ⟨_, rfl, ?_⟩))
                    go_ret
                    exact ⟨by first | rfl | (simp [errW_none, errW_some] <;> rfl) | (simp [*, errW_none, errW_some] <;> rfl), by repeat (first | (with_reducible first | exact HB.out | apply below_alloc | apply pw_below_drewN | apply below_drew1) | exact HB.out)⟩
              · rw [if_neg c52] at H
                have c52b0 : (t201 == 0) = false := beq_eq_false_iff_ne.mpr c52
                have c52b1 : (t201 != 0) = true := bne_iff_ne.mpr c52
                obtain rfl := Option.some.inj H
                go_wp2_with (first | ((with_reducible refine gate_callee (f := 40) rfl ?_); refine goesL_ (some 172) rfl rfl Try.func40 (by kernel_rfl) rfl #[.slice A1 l1.length c1, .int .i64 2, .int .i64 200] rfl (by (try simp only [List.map_toArray, List.map_cons, List.map_nil]); first | done | rfl | (simp only [List.length_drop, List.length_take]; rfl)) ?_; (with_reducible refine (laws_a2At.calls _ _ l1 2 200 t199 _ ?side1 ?side2 A47.out).mono ?_); (case side1 => repeat (first | exact (Kd.C_below HR1.out HB.out) | (with_reducible refine Kd.C_alloc ?_ _) | (with_reducible refine Kd.C_drewN ?_ _) | (with_reducible refine Kd.C_drew ?_))); (case side2 => exact HC1.out); rintro e w' ⟨rfl, ⟨nd, rfl⟩⟩; refine ⟨_, rfl, ?_⟩) | ((with_reducible refine gate_callee (f := 16) rfl ?_); refine goesL_ (some 177) rfl rfl Try.func16 (by kernel_rfl) rfl #[.int .i64 (wrap64 (t186 * 40)), .int .i64 (wrap64 (1 + t199))] rfl (by (try simp only [List.map_toArray, List.map_cons, List.map_nil]); first | done | rfl | (simp only [List.length_drop, List.length_take]; rfl)) ?_; (with_reducible refine (impl_RoundPrice.calls (wrap64 (t186 * 40)) (wrap64 (1 + t199)) t200 t201 _ A48.out).mono ?_); rintro e w' ⟨rfl, ⟨nd, rfl⟩⟩; refine ⟨_, rfl, ?_⟩) | ((with_reducible refine gate_callee (f := 40) rfl ?_); refine goesL_ (some 181) rfl rfl Try.func40 (by kernel_rfl) rfl #[.slice A1 l1.length c1, .int .i64 3, .int .i64 40] rfl (by (try simp only [List.map_toArray, List.map_cons, List.map_nil]); first | done | rfl | (simp only [List.length_drop, List.length_take]; rfl)) ?_; (with_reducible refine (laws_a2At.calls _ _ l1 3 40 t202 _ ?side1 ?side2 A49.out).mono ?_); (case side1 => repeat (first | exact (Kd.C_below HR1.out (by repeat (first | (with_reducible first | exact HB.out | apply below_alloc | apply pw_below_drewN | apply below_drew1) | exact HB.out))) | (with_reducible refine Kd.C_alloc ?_ _) | (with_reducible refine Kd.C_drewN ?_ _) | (with_reducible refine Kd.C_drew ?_))); (case side2 => exact HC1.out); rintro e w' ⟨rfl, ⟨nd, rfl⟩⟩; refine ⟨_, rfl, ?_⟩) | ((with_reducible refine gate_callee (f := 40) rfl ?_); refine goesL_ (some 183) rfl rfl Try.func40 (by kernel_rfl) rfl #[.slice A1 l1.length c1, .int .i64 4, .int .i64 60] rfl (by (try simp only [List.map_toArray, List.map_cons, List.map_nil]); first | done | rfl | (simp only [List.length_drop, List.length_take]; rfl)) ?_; (with_reducible refine (laws_a2At.calls _ _ l1 4 60 t203 _ ?side1 ?side2 A50.out).mono ?_); (case side1 => repeat (first | exact (Kd.C_below HR1.out (by repeat (first | (with_reducible first | exact HB.out | apply below_alloc | apply pw_below_drewN | apply below_drew1) | exact HB.out))) | (with_reducible refine Kd.C_alloc ?_ _) | (with_reducible refine Kd.C_drewN ?_ _) | (with_reducible refine Kd.C_drew ?_))); (case side2 => exact HC1.out); rintro e w' ⟨rfl, ⟨nd, rfl⟩⟩; refine ⟨_, rfl, ?_⟩) | ((with_reducible refine gate_callee (f := 18) rfl ?_); refine goesL_ (some 190) rfl rfl Try.func18 (by kernel_rfl) rfl #[.int .i64 (wrap64 (t186 * 40)), .int .i64 t202, .int .i64 (wrap64 (10 * (wrap64 (1 + t199)))), .int .i64 t203] rfl (by (try simp only [List.map_toArray, List.map_cons, List.map_nil]); first | done | rfl | (simp only [List.length_drop, List.length_take]; rfl)) ?_; (with_reducible refine (impl_MakingPrice.calls (wrap64 (t186 * 40)) t202 (wrap64 (10 * (wrap64 (1 + t199)))) t203 t204 t205 _ A51.out).mono ?_); rintro e w' ⟨rfl, ⟨nd, rfl⟩⟩; refine ⟨_, rfl, ?_⟩))
                go_ret
                exact ⟨by first | rfl | (simp [errW_none, errW_some] <;> rfl) | (simp [*, errW_none, errW_some] <;> rfl), by repeat (first | (with_reducible first | exact HB.out | apply below_alloc | apply pw_below_drewN | apply below_drew1) | exact HB.out)⟩

/-- THE ONE PURE STATEMENT of laws_FnPieces: yours. -/
def laws_FnPieces.Pure : Prop := ∀ (l0 : List Int) (l1 : List Int), l0.length ≤ maxLen → l0.length * 1 ≤ 140737488351232 → (∀ x ∈ l0, (Lit.int .u8 x).wf = true) → l1.length ≤ maxLen → l1.length * 1 ≤ 140737488351232 → (∀ x ∈ l1, (Lit.int .u8 x).wf = true) → ∃ k, laws_FnPieces.f k l0 l1 = some true
theorem laws_FnPieces.walk (P : laws_FnPieces.Pure) (a0 : Option Addr) (len0 cap0 : Nat) (z0 : List Int) (a1 : Option Addr) (len1 cap1 : Nat) (z1 : List Int) (w : World) (w0 : (a0 = none ∧ len0 = 0 ∧ cap0 = 0 ∧ z0 = []) ∨ ∃ x, a0 = some x ∧ len0 ≤ cap0 ∧ cap0 ≤ maxLen ∧ z0.length = cap0 ∧ (∀ i, i < z0.length → w.cell? (x.add i) = some (.int .u8 (z0.getD i 0))) ∧ ∀ n ∈ z0, (Lit.int .u8 n).wf = true) (y0 : len0 * 1 ≤ 140737488351232) (w1 : (a1 = none ∧ len1 = 0 ∧ cap1 = 0 ∧ z1 = []) ∨ ∃ x, a1 = some x ∧ len1 ≤ cap1 ∧ cap1 ≤ maxLen ∧ z1.length = cap1 ∧ (∀ i, i < z1.length → w.cell? (x.add i) = some (.int .u8 (z1.getD i 0))) ∧ ∀ n ∈ z1, (Lit.int .u8 n).wf = true) (y1 : len1 * 1 ≤ 140737488351232) :
    Calls Try.prog 12 #[.slice a0 len0 cap0, .slice a1 len1 cap1] w fun e w' => e = .returned (.bool true) ∧ Below w.heap.size w w' := by
  obtain ⟨l0, rfl, hr0, hm0, hw0, hc0⟩ := ReadsInt.ofRowC w0
  obtain ⟨l1, rfl, hr1, hm1, hw1, hc1⟩ := ReadsInt.ofRowC w1
  obtain ⟨k, h⟩ := P l0 l1 hm0 y0 hw0 hm1 y1 hw1
  refine (laws_FnPieces.calls k _ _ l0 _ _ l1 true w (Kd.C_of_reads (d := (0 : Int)) (h1 := fun _ => rfl) hr0) hc0 (Kd.C_of_reads (d := (0 : Int)) (h1 := fun _ => rfl) hr1) hc1 h).mono ?_
  rintro e w' ⟨rfl, hd⟩
  exact ⟨rfl, hd⟩

end Go.Proofs.Ytajjnpcpeaiieaa.QFnPieces
