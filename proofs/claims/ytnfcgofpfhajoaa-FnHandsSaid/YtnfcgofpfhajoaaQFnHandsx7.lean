/- Functions and contracts of one law, printed by this session's own program (contracts by hand among them). -/
import Derived.Test.YtnfcgofpfhajoaaQFnHandsx0
import Derived.Test.YtnfcgofpfhajoaaQFnHandsx1
import Derived.Test.YtnfcgofpfhajoaaQFnHandsx3
import Derived.Test.YtnfcgofpfhajoaaQFnHandsx6
namespace Go.Proofs.Ytnfcgofpfhajoaa.QFnHands
open Go.RowKit Go.Proofs.YtnfcgofpfhajoaaW.PrintWords Go.Proofs.YtnfcgofpfhajoaaW.PrintLast Go.Proofs.YtnfcgofpfhajoaaW.PrintMore
attribute [local go_sem] max2_int min2_int max_two min_two max_three min_three max_four min_four   -- for this text's walks alone
set_option linter.unusedVariables false
set_option linter.unusedSimpArgs false

/-! ### laws_FnHands: function 3, by hand -/
section
mutual
def laws_FnHands.l0 : Nat → List Int → List (S29) → Int → Int → Int → Int → Option (Bool)
  | 0, _, _, _, _, _, _ => none
  | k + 1, x1, x5, x6, x7, x8, x9 => if x9 < (x5.length : Int) then (if 0 ≤ x9 then ((impl_MinutesOf.f k ((rd_T29 x5 x9).f0) ((rd_T29 x5 x9).f1) ((rd_T29 x5 x9).f2)).bind fun bt232 => ((impl_ExtraMinutes.f k ((rd_T29 x5 x9).f0) ((rd_T29 x5 x9).f1) ((rd_T29 x5 x9).f2) x6).bind fun bt234 => ((impl_PayOf.f k ((rd_T29 x5 x9).f0) ((rd_T29 x5 x9).f1) ((rd_T29 x5 x9).f2) x6 x7).bind fun bt236 => (if bt232.2 = 0 then ((laws_a2Sum.f k ((rd_T29 x5 x9).f1)).bind fun t238 => (if bt232.1 = t238 then (if bt234.2 = 0 then (if bt234.1 < 0 then (laws_FnHands.j1 k x1 x5 x6 x7 x8 x9 bt232.1 bt234.1 true ((rd_T29 x5 x9).f0) ((rd_T29 x5 x9).f1) ((rd_T29 x5 x9).f2)) else (if bt234.1 > bt232.1 then (laws_FnHands.j1 k x1 x5 x6 x7 x8 x9 bt232.1 bt234.1 true ((rd_T29 x5 x9).f0) ((rd_T29 x5 x9).f1) ((rd_T29 x5 x9).f2)) else (if bt236.2 = 0 then (laws_FnHands.j1 k x1 x5 x6 x7 x8 x9 bt232.1 bt234.1 (bt236.1 != (wrap64 (Int.tdiv (wrap64 ((wrap64 ((wrap64 (((rd_T29 x5 x9).f2) * bt232.1)) * 100)) + (wrap64 ((wrap64 (((rd_T29 x5 x9).f2) * bt234.1)) * x7)))) 6000))) ((rd_T29 x5 x9).f0) ((rd_T29 x5 x9).f1) ((rd_T29 x5 x9).f2)) else (laws_FnHands.j1 k x1 x5 x6 x7 x8 x9 bt232.1 bt234.1 true ((rd_T29 x5 x9).f0) ((rd_T29 x5 x9).f1) ((rd_T29 x5 x9).f2))))) else (laws_FnHands.j1 k x1 x5 x6 x7 x8 x9 bt232.1 bt234.1 true ((rd_T29 x5 x9).f0) ((rd_T29 x5 x9).f1) ((rd_T29 x5 x9).f2))) else (laws_FnHands.j1 k x1 x5 x6 x7 x8 x9 bt232.1 bt234.1 true ((rd_T29 x5 x9).f0) ((rd_T29 x5 x9).f1) ((rd_T29 x5 x9).f2)))) else (laws_FnHands.j1 k x1 x5 x6 x7 x8 x9 bt232.1 bt234.1 true ((rd_T29 x5 x9).f0) ((rd_T29 x5 x9).f1) ((rd_T29 x5 x9).f2)))))) else (none)) else ((laws_a2At.f x1 2 250).bind fun t244 => ((impl_ShareByHours.f k x5 (wrap64 (t244 * 13))).bind fun bt245 => (if x8 = 0 then (some (bt245.2 == 6)) else (if bt245.2 = 0 then (if (bt245.1.length : Int) = (x5.length : Int) then ((laws_a2Sum.f k bt245.1).bind fun t249 => (some (t249 == (wrap64 (t244 * 13))))) else (some false)) else (some false)))))
def laws_FnHands.j1 : Nat → List Int → List (S29) → Int → Int → Int → Int → Int → Int → Bool → ByteArray → List Int → Int → Option (Bool)
  | 0, _, _, _, _, _, _, _, _, _, _, _, _ => none
  | k + 1, x1, x5, x6, x7, x8, x9, x11, x13, x108, x232000, x232001, x232002 => if x108 = true then (some false) else (laws_FnHands.l1 k x1 x5 x6 x7 (wrap64 (x8 + x11)) x9 x13 0 0 0 0 0 x232000 x232001 x232002)
def laws_FnHands.l1 : Nat → List Int → List (S29) → Int → Int → Int → Int → Int → Int → Int → Int → Int → Int → ByteArray → List Int → Int → Option (Bool)
  | 0, _, _, _, _, _, _, _, _, _, _, _, _, _, _, _ => none
  | k + 1, x1, x5, x6, x7, x8, x9, x13, x17, x18, x19, x20, x21, x232000, x232001, x232002 => if x21 < (x232001.length : Int) then (if 0 ≤ x21 then (if (rd x232001 x21) = 0 then (if 0 > x19 then (laws_FnHands.l1 k x1 x5 x6 x7 x8 x9 x13 (wrap64 (x17 + (mx 0 (wrap64 ((rd x232001 x21) - x6))))) 0 0 (wrap64 ((wrap64 (x21 + 1)) - 0)) (wrap64 (x21 + 1)) x232000 x232001 x232002) else (laws_FnHands.l1 k x1 x5 x6 x7 x8 x9 x13 (wrap64 (x17 + (mx 0 (wrap64 ((rd x232001 x21) - x6))))) 0 x19 x20 (wrap64 (x21 + 1)) x232000 x232001 x232002)) else (if (wrap64 (x18 + 1)) > x19 then (laws_FnHands.l1 k x1 x5 x6 x7 x8 x9 x13 (wrap64 (x17 + (mx 0 (wrap64 ((rd x232001 x21) - x6))))) (wrap64 (x18 + 1)) (wrap64 (x18 + 1)) (wrap64 ((wrap64 (x21 + 1)) - (wrap64 (x18 + 1)))) (wrap64 (x21 + 1)) x232000 x232001 x232002) else (laws_FnHands.l1 k x1 x5 x6 x7 x8 x9 x13 (wrap64 (x17 + (mx 0 (wrap64 ((rd x232001 x21) - x6))))) (wrap64 (x18 + 1)) x19 x20 (wrap64 (x21 + 1)) x232000 x232001 x232002))) else (none)) else ((impl_LongestStreak.f k x232000 x232001 x232002).bind fun bt239 => (if x13 = x17 then (if x19 = 0 then (if bt239.2.2 = 3 then (if x19 > 0 then (if bt239.2.2 = 0 then (if bt239.1 = x20 then (if bt239.2.1 = x19 then (laws_FnHands.l0 k x1 x5 x6 x7 x8 (wrap64 (x9 + 1))) else (some false)) else (some false)) else (some false)) else (laws_FnHands.l0 k x1 x5 x6 x7 x8 (wrap64 (x9 + 1)))) else (some false)) else (if x19 > 0 then (if bt239.2.2 = 0 then (if bt239.1 = x20 then (if bt239.2.1 = x19 then (laws_FnHands.l0 k x1 x5 x6 x7 x8 (wrap64 (x9 + 1))) else (some false)) else (some false)) else (some false)) else (laws_FnHands.l0 k x1 x5 x6 x7 x8 (wrap64 (x9 + 1))))) else (some false)))
end
def laws_FnHands.f (k : Nat) (l0 : List Int) (l1 : List Int) : Option (Bool) := (laws_a2Long.f l0 l1).bind fun t227 => (if t227 = true then (some true) else ((spec_A2Hands.f k l0).bind fun l2 => ((laws_a2At.f l1 0 10).bind fun t228 => ((laws_a2At.f l1 1 100).bind fun t229 => (laws_FnHands.l0 k l1 l2 (wrap64 (60 * t228)) t229 0 0)))))
set_option maxHeartbeats 8000000 in
set_option maxRecDepth 100000 in
theorem laws_FnHands.calls (k : Nat) (A0 : Option Addr) (c0 : Nat) (l0 : List Int) (A1 : Option Addr) (c1 : Nat) (l1 : List Int) (r : Bool) (wz : World) (hr0 : Kd.C (Kd.int .u8) wz A0 l0.length l0) (hc0 : l0.length ≤ c0) (hr1 : Kd.C (Kd.int .u8) wz A1 l1.length l1) (hc1 : l1.length ≤ c1) (h : laws_FnHands.f k l0 l1 = some r) :
    Calls Try.prog 3 #[.slice A0 l0.length c0, .slice A1 l1.length c1] wz fun e w' => e = .returned (.bool r) ∧ Below wz.heap.size wz w' := by
  have hu29 := Try.underlying29
  have HR0 := Aside0.mk hr0
  have HC0 := Aside0.mk hc0
  clear hr0 hc0
  have HR1 := Aside0.mk hr1
  have HC1 := Aside0.mk hc1
  clear hr1 hc1
  have HB := Aside0.mk (Below.refl wz.heap.size wz)
  unfold laws_FnHands.f at h
  obtain ⟨t227, A40, H⟩ := Option.bind_eq_some_iff.mp h
  clear h
  have A4 := Aside0.mk A40
  clear A40
  by_cases c5 : t227 = true
  · subst c5
    have H1 : (some true) = some r := by rw [if_pos rfl] at H; exact H
    clear H
    have H := H1
    clear H1
    obtain rfl := Option.some.inj H
    go_enter Try.func3, Try.ntmps3
    go_wp2_with (first | ((with_reducible refine gate_callee (f := 8) rfl ?_); refine goesL_ (some 30) rfl rfl Try.func8 (by kernel_rfl) rfl #[.slice A0 l0.length c0, .slice A1 l1.length c1] rfl (by (try simp only [List.map_toArray, List.map_cons, List.map_nil]); first | done | rfl | (simp only [List.length_drop, List.length_take]; rfl)) ?_; (with_reducible refine (laws_a2Long.calls _ _ l0 _ _ l1 true _ ?side1 ?side2 ?side3 ?side4 A4.out).mono ?_); (case side1 => repeat (first | exact HR0.out | (with_reducible refine Kd.C_alloc ?_ _) | (with_reducible refine Kd.C_drewN ?_ _) | (with_reducible refine Kd.C_drew ?_))); (case side2 => exact HC0.out); (case side3 => repeat (first | exact HR1.out | (with_reducible refine Kd.C_alloc ?_ _) | (with_reducible refine Kd.C_drewN ?_ _) | (with_reducible refine Kd.C_drew ?_))); (case side4 => exact HC1.out); rintro e wz' ⟨rfl, ⟨nd, rfl⟩⟩; refine ⟨_, rfl, ?_⟩))
    go_ret
    exact ⟨by first | rfl | (simp [errW_none, errW_some] <;> rfl) | (simp [*, errW_none, errW_some] <;> rfl), by repeat (first | (with_reducible first | exact HB.out | apply below_alloc | apply pw_below_drewN | apply below_drew1) | exact HB.out)⟩
  · replace c5 := Bool.eq_false_iff.mpr c5
    subst c5
    rw [if_neg (show ¬ (false = true) by decide)] at H
    obtain ⟨l2, A50, H⟩ := Option.bind_eq_some_iff.mp H
    have A5 := Aside0.mk A50
    clear A50
    obtain ⟨t228, A60, H⟩ := Option.bind_eq_some_iff.mp H
    have A6 := Aside0.mk A60
    clear A60
    obtain ⟨t229, A70, H⟩ := Option.bind_eq_some_iff.mp H
    replace H : (laws_FnHands.l0 k l1 l2 (wrap64 (60 * t228)) t229 0 0) = some r := H
    have A7 := Aside0.mk A70
    clear A70
    have H' := Aside0.mk H
    clear H
    go_enter Try.func3, Try.ntmps3
    go_wp2_with (first | ((with_reducible refine gate_callee (f := 8) rfl ?_); refine goesL_ (some 30) rfl rfl Try.func8 (by kernel_rfl) rfl #[.slice A0 l0.length c0, .slice A1 l1.length c1] rfl (by (try simp only [List.map_toArray, List.map_cons, List.map_nil]); first | done | rfl | (simp only [List.length_drop, List.length_take]; rfl)) ?_; (with_reducible refine (laws_a2Long.calls _ _ l0 _ _ l1 false _ ?side1 ?side2 ?side3 ?side4 A4.out).mono ?_); (case side1 => repeat (first | exact HR0.out | (with_reducible refine Kd.C_alloc ?_ _) | (with_reducible refine Kd.C_drewN ?_ _) | (with_reducible refine Kd.C_drew ?_))); (case side2 => exact HC0.out); (case side3 => repeat (first | exact HR1.out | (with_reducible refine Kd.C_alloc ?_ _) | (with_reducible refine Kd.C_drewN ?_ _) | (with_reducible refine Kd.C_drew ?_))); (case side4 => exact HC1.out); rintro e w' ⟨rfl, ⟨nd, rfl⟩⟩; refine ⟨_, rfl, ?_⟩) | ((with_reducible refine gate_callee (f := 9) rfl ?_); refine goesL_ (some 32) rfl rfl Try.func9 (by kernel_rfl) rfl #[.slice A0 l0.length c0] rfl (by (try simp only [List.map_toArray, List.map_cons, List.map_nil]); first | done | rfl) ?_; (with_reducible refine (spec_A2Hands.calls k _ _ l0 l2 _ ?side1 ?side2 A5.out).mono ?_); (case side1 => repeat (first | exact HR0.out | (with_reducible refine Kd.C_alloc ?_ _) | (with_reducible refine Kd.C_drewN ?_ _) | (with_reducible refine Kd.C_drew ?_))); (case side2 => exact HC0.out); rintro e w ⟨v0_, rfl, hs0, hb0⟩; refine ⟨_, rfl, ?_⟩; obtain ⟨A2, c2, rfl, hc2, hr2⟩ := Kd.S_reads hs0; have HBZ := Aside0.mk (below_step (pw_below_drewN (Below.refl wz.heap.size wz) _) hb0); have n0_ := Aside0.mk (Kd.C_below HR0.out HBZ.out); have n1_ := Aside0.mk (Kd.C_below HR1.out HBZ.out); have HR2 := Aside0.mk hr2; have HC2 := Aside0.mk hc2; clear HR0; clear HR1; clear HB; have HR0 := n0_; have HR1 := n1_; have HB := Aside0.mk (Below.refl w.heap.size w); clear n0_ n1_; clear hs0 hb0 hr2 hc2) | ((with_reducible refine gate_callee (f := 10) rfl ?_); refine goesL_ (some 34) rfl rfl Try.func10 (by kernel_rfl) rfl #[.slice A1 l1.length c1, .int .i64 0, .int .i64 10] rfl (by (try simp only [List.map_toArray, List.map_cons, List.map_nil]); first | done | rfl | (simp only [List.length_drop, List.length_take]; rfl)) ?_; (with_reducible refine (laws_a2At.calls _ _ l1 0 10 t228 _ ?side1 ?side2 A6.out).mono ?_); (case side1 => repeat (first | exact HR1.out | (with_reducible refine Kd.C_alloc ?_ _) | (with_reducible refine Kd.C_drewN ?_ _) | (with_reducible refine Kd.C_drew ?_))); (case side2 => exact HC1.out); rintro e w' ⟨rfl, ⟨nd, rfl⟩⟩; refine ⟨_, rfl, ?_⟩) | ((with_reducible refine gate_callee (f := 10) rfl ?_); refine goesL_ (some 37) rfl rfl Try.func10 (by kernel_rfl) rfl #[.slice A1 l1.length c1, .int .i64 1, .int .i64 100] rfl (by (try simp only [List.map_toArray, List.map_cons, List.map_nil]); first | done | rfl | (simp only [List.length_drop, List.length_take]; rfl)) ?_; (with_reducible refine (laws_a2At.calls _ _ l1 1 100 t229 _ ?side1 ?side2 A7.out).mono ?_); (case side1 => repeat (first | exact HR1.out | (with_reducible refine Kd.C_alloc ?_ _) | (with_reducible refine Kd.C_drewN ?_ _) | (with_reducible refine Kd.C_drew ?_))); (case side2 => exact HC1.out); rintro e w' ⟨rfl, ⟨nd, rfl⟩⟩; refine ⟨_, rfl, ?_⟩))
    go_loopg [8, 9] k (fun kq v8 v9 w' => ∃ (x8_1 : Int) (x9_1 : Int), v8 = .int .i64 x8_1 ∧ v9 = .int .i64 x9_1 ∧ Aside0 (laws_FnHands.l0 kq l1 l2 (wrap64 (60 * t228)) t229 x8_1 x9_1 = some r) ∧ Aside0 (kq ≤ k) ∧ Aside0 (Below w.heap.size w w'))
    case atStart => exact ⟨(0), (0), (by first | rfl | (simp; done) | (simp [*]; done)), (by first | rfl | (simp; done) | (simp [*]; done)), H', ⟨Nat.le_refl _⟩, ⟨by repeat (first | (with_reducible first | exact HB.out | apply below_alloc | apply pw_below_drewN | apply below_drew1) | exact HB.out)⟩⟩
    case round =>
      clear H'
      try clear c1
      try clear c2
      try clear p2
      try clear c3
      try clear c5
      try clear p6
      obtain ⟨x8_1, x9_1, rfl, rfl, HA, HK1, HB⟩ := hrel
      cases gk with
      | zero => exact absurd HA.out (by simp [laws_FnHands.l0])
      | succ k1 =>
        have H := HA.out
        clear HA
        simp only [laws_FnHands.l0] at H
        by_cases c8 : x9_1 < (l2.length : Int)
        · rw [if_pos c8] at H
          have c8b0 : decide (x9_1 < (l2.length : Int)) = true := decide_eq_true c8
          clear c8
          by_cases c9 : 0 ≤ x9_1
          · rw [if_pos c9] at H
            have c9b0 : decide (0 ≤ x9_1) = true := decide_eq_true c9
            clear c9
            replace H := Option.bind_eq_some_iff.mp H
            obtain ⟨⟨t232, t233⟩, A100, H⟩ := H
            replace H : ((impl_ExtraMinutes.f k1 ((rd_T29 l2 x9_1).f0) ((rd_T29 l2 x9_1).f1) ((rd_T29 l2 x9_1).f2) (wrap64 (60 * t228))).bind fun bt234 => ((impl_PayOf.f k1 ((rd_T29 l2 x9_1).f0) ((rd_T29 l2 x9_1).f1) ((rd_T29 l2 x9_1).f2) (wrap64 (60 * t228)) t229).bind fun bt236 => (if t233 = 0 then ((laws_a2Sum.f k1 ((rd_T29 l2 x9_1).f1)).bind fun t238 => (if t232 = t238 then (if bt234.2 = 0 then (if bt234.1 < 0 then (laws_FnHands.j1 k1 l1 l2 (wrap64 (60 * t228)) t229 x8_1 x9_1 t232 bt234.1 true ((rd_T29 l2 x9_1).f0) ((rd_T29 l2 x9_1).f1) ((rd_T29 l2 x9_1).f2)) else (if bt234.1 > t232 then (laws_FnHands.j1 k1 l1 l2 (wrap64 (60 * t228)) t229 x8_1 x9_1 t232 bt234.1 true ((rd_T29 l2 x9_1).f0) ((rd_T29 l2 x9_1).f1) ((rd_T29 l2 x9_1).f2)) else (if bt236.2 = 0 then (laws_FnHands.j1 k1 l1 l2 (wrap64 (60 * t228)) t229 x8_1 x9_1 t232 bt234.1 (bt236.1 != (wrap64 (Int.tdiv (wrap64 ((wrap64 ((wrap64 (((rd_T29 l2 x9_1).f2) * t232)) * 100)) + (wrap64 ((wrap64 (((rd_T29 l2 x9_1).f2) * bt234.1)) * t229)))) 6000))) ((rd_T29 l2 x9_1).f0) ((rd_T29 l2 x9_1).f1) ((rd_T29 l2 x9_1).f2)) else (laws_FnHands.j1 k1 l1 l2 (wrap64 (60 * t228)) t229 x8_1 x9_1 t232 bt234.1 true ((rd_T29 l2 x9_1).f0) ((rd_T29 l2 x9_1).f1) ((rd_T29 l2 x9_1).f2))))) else (laws_FnHands.j1 k1 l1 l2 (wrap64 (60 * t228)) t229 x8_1 x9_1 t232 bt234.1 true ((rd_T29 l2 x9_1).f0) ((rd_T29 l2 x9_1).f1) ((rd_T29 l2 x9_1).f2))) else (laws_FnHands.j1 k1 l1 l2 (wrap64 (60 * t228)) t229 x8_1 x9_1 t232 bt234.1 true ((rd_T29 l2 x9_1).f0) ((rd_T29 l2 x9_1).f1) ((rd_T29 l2 x9_1).f2)))) else (laws_FnHands.j1 k1 l1 l2 (wrap64 (60 * t228)) t229 x8_1 x9_1 t232 bt234.1 true ((rd_T29 l2 x9_1).f0) ((rd_T29 l2 x9_1).f1) ((rd_T29 l2 x9_1).f2))))) = some r := H
            have A10 := Aside0.mk A100
            clear A100
            replace H := Option.bind_eq_some_iff.mp H
            obtain ⟨⟨t234, t235⟩, A110, H⟩ := H
            replace H : ((impl_PayOf.f k1 ((rd_T29 l2 x9_1).f0) ((rd_T29 l2 x9_1).f1) ((rd_T29 l2 x9_1).f2) (wrap64 (60 * t228)) t229).bind fun bt236 => (if t233 = 0 then ((laws_a2Sum.f k1 ((rd_T29 l2 x9_1).f1)).bind fun t238 => (if t232 = t238 then (if t235 = 0 then (if t234 < 0 then (laws_FnHands.j1 k1 l1 l2 (wrap64 (60 * t228)) t229 x8_1 x9_1 t232 t234 true ((rd_T29 l2 x9_1).f0) ((rd_T29 l2 x9_1).f1) ((rd_T29 l2 x9_1).f2)) else (if t234 > t232 then (laws_FnHands.j1 k1 l1 l2 (wrap64 (60 * t228)) t229 x8_1 x9_1 t232 t234 true ((rd_T29 l2 x9_1).f0) ((rd_T29 l2 x9_1).f1) ((rd_T29 l2 x9_1).f2)) else (if bt236.2 = 0 then (laws_FnHands.j1 k1 l1 l2 (wrap64 (60 * t228)) t229 x8_1 x9_1 t232 t234 (bt236.1 != (wrap64 (Int.tdiv (wrap64 ((wrap64 ((wrap64 (((rd_T29 l2 x9_1).f2) * t232)) * 100)) + (wrap64 ((wrap64 (((rd_T29 l2 x9_1).f2) * t234)) * t229)))) 6000))) ((rd_T29 l2 x9_1).f0) ((rd_T29 l2 x9_1).f1) ((rd_T29 l2 x9_1).f2)) else (laws_FnHands.j1 k1 l1 l2 (wrap64 (60 * t228)) t229 x8_1 x9_1 t232 t234 true ((rd_T29 l2 x9_1).f0) ((rd_T29 l2 x9_1).f1) ((rd_T29 l2 x9_1).f2))))) else (laws_FnHands.j1 k1 l1 l2 (wrap64 (60 * t228)) t229 x8_1 x9_1 t232 t234 true ((rd_T29 l2 x9_1).f0) ((rd_T29 l2 x9_1).f1) ((rd_T29 l2 x9_1).f2))) else (laws_FnHands.j1 k1 l1 l2 (wrap64 (60 * t228)) t229 x8_1 x9_1 t232 t234 true ((rd_T29 l2 x9_1).f0) ((rd_T29 l2 x9_1).f1) ((rd_T29 l2 x9_1).f2)))) else (laws_FnHands.j1 k1 l1 l2 (wrap64 (60 * t228)) t229 x8_1 x9_1 t232 t234 true ((rd_T29 l2 x9_1).f0) ((rd_T29 l2 x9_1).f1) ((rd_T29 l2 x9_1).f2)))) = some r := H
            have A11 := Aside0.mk A110
            clear A110
            replace H := Option.bind_eq_some_iff.mp H
            obtain ⟨⟨t236, t237⟩, A120, H⟩ := H
            replace H : (if t233 = 0 then ((laws_a2Sum.f k1 ((rd_T29 l2 x9_1).f1)).bind fun t238 => (if t232 = t238 then (if t235 = 0 then (if t234 < 0 then (laws_FnHands.j1 k1 l1 l2 (wrap64 (60 * t228)) t229 x8_1 x9_1 t232 t234 true ((rd_T29 l2 x9_1).f0) ((rd_T29 l2 x9_1).f1) ((rd_T29 l2 x9_1).f2)) else (if t234 > t232 then (laws_FnHands.j1 k1 l1 l2 (wrap64 (60 * t228)) t229 x8_1 x9_1 t232 t234 true ((rd_T29 l2 x9_1).f0) ((rd_T29 l2 x9_1).f1) ((rd_T29 l2 x9_1).f2)) else (if t237 = 0 then (laws_FnHands.j1 k1 l1 l2 (wrap64 (60 * t228)) t229 x8_1 x9_1 t232 t234 (t236 != (wrap64 (Int.tdiv (wrap64 ((wrap64 ((wrap64 (((rd_T29 l2 x9_1).f2) * t232)) * 100)) + (wrap64 ((wrap64 (((rd_T29 l2 x9_1).f2) * t234)) * t229)))) 6000))) ((rd_T29 l2 x9_1).f0) ((rd_T29 l2 x9_1).f1) ((rd_T29 l2 x9_1).f2)) else (laws_FnHands.j1 k1 l1 l2 (wrap64 (60 * t228)) t229 x8_1 x9_1 t232 t234 true ((rd_T29 l2 x9_1).f0) ((rd_T29 l2 x9_1).f1) ((rd_T29 l2 x9_1).f2))))) else (laws_FnHands.j1 k1 l1 l2 (wrap64 (60 * t228)) t229 x8_1 x9_1 t232 t234 true ((rd_T29 l2 x9_1).f0) ((rd_T29 l2 x9_1).f1) ((rd_T29 l2 x9_1).f2))) else (laws_FnHands.j1 k1 l1 l2 (wrap64 (60 * t228)) t229 x8_1 x9_1 t232 t234 true ((rd_T29 l2 x9_1).f0) ((rd_T29 l2 x9_1).f1) ((rd_T29 l2 x9_1).f2)))) else (laws_FnHands.j1 k1 l1 l2 (wrap64 (60 * t228)) t229 x8_1 x9_1 t232 t234 true ((rd_T29 l2 x9_1).f0) ((rd_T29 l2 x9_1).f1) ((rd_T29 l2 x9_1).f2))) = some r := H
            have A12 := Aside0.mk A120
            clear A120
            have HC13 := Aside0.mk H
            clear H
            have p230 : 0 ≤ (x9_1 : Int) := of_decide_eq_true (by first | (with_reducible assumption) | assumption)
            have q230 : x9_1 < (l2.length : Int) := of_decide_eq_true (by first | (with_reducible assumption) | assumption)
            obtain ⟨ad230, A230_1, c230_1, e230, hx230_0, hx230_1, hx230_2, hl230_1, hi230_1⟩ := at_T29 HR2.out x9_1 p230 q230
            cases e230
            replace hx230_0 := (HB.out.cell (World.block_lt_of_cell? w _ hx230_0)).trans hx230_0
            replace hx230_1 := (HB.out.cell (World.block_lt_of_cell? w _ hx230_1)).trans hx230_1
            replace hx230_2 := (HB.out.cell (World.block_lt_of_cell? w _ hx230_2)).trans hx230_2
            have HR230_1 := Aside0.mk hi230_1
            have HC230_1 := Aside0.mk hl230_1
            clear hi230_1 hl230_1
            replace p230 := eq_true p230
            replace q230 := eq_true q230
            go_upto_region 14 with (first | ((with_reducible refine gate_dst (N := 10) rfl ?_); (try (refine gate_guard (by rfl) ?_; dsimp only)); refine box_event ?hg (N := 10) ?hd (cs := #[.string (⟨#[]⟩ : ByteArray), .slice none 0 0, .int .i64 0]) (t := 29) ?hr ?_; (case hd => rfl); (case hg => rfl); (case hr => first | (go_simp; done) | (go_simp; rfl)); intro gb231 hg w14 hbox hb; have n0_ := Aside0.mk (below_step (by repeat (first | (with_reducible first | exact HB.out | apply below_alloc | apply pw_below_drewN | apply below_drew1) | exact HB.out)) hb); have n1_ := Aside0.mk (hbox); have n2_ := Aside0.mk ((by rw [hg]; exact (below_size (by repeat (first | (with_reducible first | exact HB.out | apply below_alloc | apply pw_below_drewN | apply below_drew1) | exact HB.out))) : w.heap.size ≤ gb231)); have n3_ := Aside0.mk ((by rw [hg]; exact (below_size (by repeat (first | (with_reducible first | exact HB.out | apply below_alloc | apply pw_below_drewN | apply below_drew1) | exact HB.out))) : w.heap.size ≤ gb231)); clear HB; have HB := n0_; have BK231 := n1_; have GW231 := n2_; have GE231 := n3_; clear n0_ n1_ n2_ n3_; clear hb hbox hg; have hcz15_0 : w14.cell? ⟨gb231, 0, none⟩ = some (.string (⟨#[]⟩ : ByteArray)) := (blk_cell BK231.out 0).trans rfl; have hcz15_1 : w14.cell? ⟨gb231, 1, none⟩ = some (.slice none 0 0) := (blk_cell BK231.out 1).trans rfl; have hcz15_2 : w14.cell? ⟨gb231, 2, none⟩ = some (.int .i64 0) := (blk_cell BK231.out 2).trans rfl; have hfz15_0 := blk_frozen BK231.out 0; have hfz15_1 := blk_frozen BK231.out 1; have hfz15_2 := blk_frozen BK231.out 2) | ((with_reducible refine gate_callee (f := 11) rfl ?_); refine goesL_ (some 50) rfl rfl Try.func11 (by kernel_rfl) rfl #[.agg #[.string ((rd_T29 l2 x9_1).f0), .slice A230_1 ((rd_T29 l2 x9_1).f1).length c230_1, .int .i64 ((rd_T29 l2 x9_1).f2)]] rfl (by (try simp only [List.map_toArray, List.map_cons, List.map_nil]); first | done | rfl | (simp only [List.length_drop, List.length_take]; rfl)) ?_; (with_reducible refine (impl_MinutesOf.calls k1 ((rd_T29 l2 x9_1).f0) _ _ ((rd_T29 l2 x9_1).f1) ((rd_T29 l2 x9_1).f2) t232 t233 _ ?side1 ?side2 A10.out).mono ?_); (case side1 => exact Kd.C_below HR230_1.out (by repeat (first | (with_reducible first | exact HB.out | apply below_alloc | apply pw_below_drewN | apply below_drew1 | refine below_set ?_ GE231.out) | exact HB.out))); (case side2 => exact HC230_1.out); rintro e w16 ⟨rfl, hb⟩; refine ⟨_, rfl, ?_⟩; have n0_ := Aside0.mk (blk_below (g := gb231) (o := .cells #[.string ((rd_T29 l2 x9_1).f0), .slice A230_1 ((rd_T29 l2 x9_1).f1).length c230_1, .int .i64 ((rd_T29 l2 x9_1).f2)] 29 (0, 0)) (by (with_reducible repeat (first | refine blk_drewN ?_ _ | refine blk_drew ?_ | refine blk_alloc ?_ _)); refine blk_put (cs := #[.string ((rd_T29 l2 x9_1).f0), .slice A230_1 ((rd_T29 l2 x9_1).f1).length c230_1, .int .i64 0]) ?_ 2 _ rfl; (with_reducible repeat (first | refine blk_drewN ?_ _ | refine blk_drew ?_ | refine blk_alloc ?_ _)); refine blk_put (cs := #[.string ((rd_T29 l2 x9_1).f0), .slice none 0 0, .int .i64 0]) ?_ 1 _ rfl; (with_reducible repeat (first | refine blk_drewN ?_ _ | refine blk_drew ?_ | refine blk_alloc ?_ _)); refine blk_put (cs := #[.string (⟨#[]⟩ : ByteArray), .slice none 0 0, .int .i64 0]) ?_ 0 _ rfl; (with_reducible repeat (first | refine blk_drewN ?_ _ | refine blk_drew ?_ | refine blk_alloc ?_ _)); exact BK231.out) hb); have n1_ := Aside0.mk (below_step (by repeat (first | (with_reducible first | exact HB.out | apply below_alloc | apply pw_below_drewN | apply below_drew1 | refine below_set ?_ GE231.out) | exact HB.out)) hb); clear BK231; clear HB; have BK231 := n0_; have HB := n1_; clear n0_ n1_; (try clear hb); (try clear hb2); (try clear hk); (try clear hi); have hcz17_0 : w16.cell? ⟨gb231, 0, none⟩ = some (.string ((rd_T29 l2 x9_1).f0)) := (blk_cell BK231.out 0).trans rfl; have hcz17_1 : w16.cell? ⟨gb231, 1, none⟩ = some (.slice A230_1 ((rd_T29 l2 x9_1).f1).length c230_1) := (blk_cell BK231.out 1).trans rfl; have hcz17_2 : w16.cell? ⟨gb231, 2, none⟩ = some (.int .i64 ((rd_T29 l2 x9_1).f2)) := (blk_cell BK231.out 2).trans rfl; have hfz17_0 := blk_frozen BK231.out 0; have hfz17_1 := blk_frozen BK231.out 1; have hfz17_2 := blk_frozen BK231.out 2) | ((with_reducible refine gate_callee (f := 12) rfl ?_); refine goesL_ (some 56) rfl rfl Try.func12 (by kernel_rfl) rfl #[.agg #[.string ((rd_T29 l2 x9_1).f0), .slice A230_1 ((rd_T29 l2 x9_1).f1).length c230_1, .int .i64 ((rd_T29 l2 x9_1).f2)], .int .i64 (wrap64 (60 * t228))] rfl (by (try simp only [List.map_toArray, List.map_cons, List.map_nil]); first | done | rfl | (simp only [List.length_drop, List.length_take]; rfl)) ?_; (with_reducible refine (impl_ExtraMinutes.calls k1 ((rd_T29 l2 x9_1).f0) _ _ ((rd_T29 l2 x9_1).f1) ((rd_T29 l2 x9_1).f2) (wrap64 (60 * t228)) t234 t235 _ ?side1 ?side2 A11.out).mono ?_); (case side1 => repeat (first | exact (Kd.C_below HR230_1.out HB.out) | (with_reducible refine Kd.C_alloc ?_ _) | (with_reducible refine Kd.C_drewN ?_ _) | (with_reducible refine Kd.C_drew ?_))); (case side2 => exact HC230_1.out); rintro e w18 ⟨rfl, hb⟩; refine ⟨_, rfl, ?_⟩; have n0_ := Aside0.mk (blk_below (g := gb231) (o := .cells #[.string ((rd_T29 l2 x9_1).f0), .slice A230_1 ((rd_T29 l2 x9_1).f1).length c230_1, .int .i64 ((rd_T29 l2 x9_1).f2)] 29 (0, 0)) (by (with_reducible repeat (first | refine blk_drewN ?_ _ | refine blk_drew ?_ | refine blk_alloc ?_ _)); exact BK231.out) hb); have n1_ := Aside0.mk (below_step (by repeat (first | (with_reducible first | exact HB.out | apply below_alloc | apply pw_below_drewN | apply below_drew1 | refine below_set ?_ GE231.out) | exact HB.out)) hb); clear BK231; clear HB; have BK231 := n0_; have HB := n1_; clear n0_ n1_; (try clear hb); (try clear hb2); (try clear hk); (try clear hi); have hcz19_0 : w18.cell? ⟨gb231, 0, none⟩ = some (.string ((rd_T29 l2 x9_1).f0)) := (blk_cell BK231.out 0).trans rfl; have hcz19_1 : w18.cell? ⟨gb231, 1, none⟩ = some (.slice A230_1 ((rd_T29 l2 x9_1).f1).length c230_1) := (blk_cell BK231.out 1).trans rfl; have hcz19_2 : w18.cell? ⟨gb231, 2, none⟩ = some (.int .i64 ((rd_T29 l2 x9_1).f2)) := (blk_cell BK231.out 2).trans rfl; have hfz19_0 := blk_frozen BK231.out 0; have hfz19_1 := blk_frozen BK231.out 1; have hfz19_2 := blk_frozen BK231.out 2) | ((with_reducible refine gate_callee (f := 13) rfl ?_); refine goesL_ (some 63) rfl rfl Try.func13 (by kernel_rfl) rfl #[.agg #[.string ((rd_T29 l2 x9_1).f0), .slice A230_1 ((rd_T29 l2 x9_1).f1).length c230_1, .int .i64 ((rd_T29 l2 x9_1).f2)], .int .i64 (wrap64 (60 * t228)), .int .i64 t229] rfl (by (try simp only [List.map_toArray, List.map_cons, List.map_nil]); first | done | rfl | (simp only [List.length_drop, List.length_take]; rfl)) ?_; (with_reducible refine (impl_PayOf.calls k1 ((rd_T29 l2 x9_1).f0) _ _ ((rd_T29 l2 x9_1).f1) ((rd_T29 l2 x9_1).f2) (wrap64 (60 * t228)) t229 t236 t237 _ ?side1 ?side2 A12.out).mono ?_); (case side1 => repeat (first | exact (Kd.C_below HR230_1.out HB.out) | (with_reducible refine Kd.C_alloc ?_ _) | (with_reducible refine Kd.C_drewN ?_ _) | (with_reducible refine Kd.C_drew ?_))); (case side2 => exact HC230_1.out); rintro e w20 ⟨rfl, hb⟩; refine ⟨_, rfl, ?_⟩; have n0_ := Aside0.mk (blk_below (g := gb231) (o := .cells #[.string ((rd_T29 l2 x9_1).f0), .slice A230_1 ((rd_T29 l2 x9_1).f1).length c230_1, .int .i64 ((rd_T29 l2 x9_1).f2)] 29 (0, 0)) (by (with_reducible repeat (first | refine blk_drewN ?_ _ | refine blk_drew ?_ | refine blk_alloc ?_ _)); exact BK231.out) hb); have n1_ := Aside0.mk (below_step (by repeat (first | (with_reducible first | exact HB.out | apply below_alloc | apply pw_below_drewN | apply below_drew1 | refine below_set ?_ GE231.out) | exact HB.out)) hb); clear BK231; clear HB; have BK231 := n0_; have HB := n1_; clear n0_ n1_; (try clear hb); (try clear hb2); (try clear hk); (try clear hi)))
            (try simp only [Act.put, List.setIfInBounds_toArray, List.set_cons_zero, List.set_cons_succ])
            go_cut [108] (fun v108 wc => ∃ (kq : Nat) (x108_12 : Bool), v108 = .bool x108_12 ∧ Aside0 (laws_FnHands.j1 kq l1 l2 (wrap64 (60 * t228)) t229 x8_1 x9_1 t232 t234 x108_12 ((rd_T29 l2 x9_1).f0) ((rd_T29 l2 x9_1).f1) ((rd_T29 l2 x9_1).f2) = some r) ∧ Aside0 (kq ≤ k1) ∧ Aside0 (wc.heap[gb231]? = some (.cells #[.string ((rd_T29 l2 x9_1).f0), (.slice A230_1 ((rd_T29 l2 x9_1).f1).length c230_1), .int .i64 ((rd_T29 l2 x9_1).f2)] 29 (0, 0))) ∧ Aside0 (Below w.heap.size w wc))
            case first => as_aux_lemma =>
              have H := HC13.out
              clear HC13
              by_cases c21 : t233 = 0
              · rw [if_pos c21] at H
                have c21b0 : (t233 == 0) = true := beq_iff_eq.mpr c21
                have c21b1 : (t233 != 0) = false := bne_eq_false_iff_eq.mpr c21
                clear c21
                (first | rw [c21b0] | (simp only [i64_w, i32_w]; rw [c21b0]) | skip)
                replace H := Option.bind_eq_some_iff.mp H
                obtain ⟨t238, A220, H⟩ := H
                replace H : (if t232 = t238 then (if t235 = 0 then (if t234 < 0 then (laws_FnHands.j1 k1 l1 l2 (wrap64 (60 * t228)) t229 x8_1 x9_1 t232 t234 true ((rd_T29 l2 x9_1).f0) ((rd_T29 l2 x9_1).f1) ((rd_T29 l2 x9_1).f2)) else (if t234 > t232 then (laws_FnHands.j1 k1 l1 l2 (wrap64 (60 * t228)) t229 x8_1 x9_1 t232 t234 true ((rd_T29 l2 x9_1).f0) ((rd_T29 l2 x9_1).f1) ((rd_T29 l2 x9_1).f2)) else (if t237 = 0 then (laws_FnHands.j1 k1 l1 l2 (wrap64 (60 * t228)) t229 x8_1 x9_1 t232 t234 (t236 != (wrap64 (Int.tdiv (wrap64 ((wrap64 ((wrap64 (((rd_T29 l2 x9_1).f2) * t232)) * 100)) + (wrap64 ((wrap64 (((rd_T29 l2 x9_1).f2) * t234)) * t229)))) 6000))) ((rd_T29 l2 x9_1).f0) ((rd_T29 l2 x9_1).f1) ((rd_T29 l2 x9_1).f2)) else (laws_FnHands.j1 k1 l1 l2 (wrap64 (60 * t228)) t229 x8_1 x9_1 t232 t234 true ((rd_T29 l2 x9_1).f0) ((rd_T29 l2 x9_1).f1) ((rd_T29 l2 x9_1).f2))))) else (laws_FnHands.j1 k1 l1 l2 (wrap64 (60 * t228)) t229 x8_1 x9_1 t232 t234 true ((rd_T29 l2 x9_1).f0) ((rd_T29 l2 x9_1).f1) ((rd_T29 l2 x9_1).f2))) else (laws_FnHands.j1 k1 l1 l2 (wrap64 (60 * t228)) t229 x8_1 x9_1 t232 t234 true ((rd_T29 l2 x9_1).f0) ((rd_T29 l2 x9_1).f1) ((rd_T29 l2 x9_1).f2))) = some r := H
                have A22 := Aside0.mk A220
                clear A220
                by_cases c23 : t232 = t238
                · rw [if_pos c23] at H
                  have c23b0 : (t232 == t238) = true := beq_iff_eq.mpr c23
                  have c23b1 : (t232 != t238) = false := bne_eq_false_iff_eq.mpr c23
                  clear c23
                  by_cases c24 : t235 = 0
                  · rw [if_pos c24] at H
                    have c24b0 : (t235 == 0) = true := beq_iff_eq.mpr c24
                    have c24b1 : (t235 != 0) = false := bne_eq_false_iff_eq.mpr c24
                    clear c24
                    by_cases c25 : t234 < 0
                    · rw [if_pos c25] at H
                      have c25b0 : decide (t234 < 0) = true := decide_eq_true c25
                      clear c25
                      have H' := Aside0.mk H
                      clear H
                      have hcz26_0 : w20.cell? ⟨gb231, 0, none⟩ = some (.string ((rd_T29 l2 x9_1).f0)) := (blk_cell BK231.out 0).trans rfl
                      have hcz26_1 : w20.cell? ⟨gb231, 1, none⟩ = some (.slice A230_1 ((rd_T29 l2 x9_1).f1).length c230_1) := (blk_cell BK231.out 1).trans rfl
                      have hcz26_2 : w20.cell? ⟨gb231, 2, none⟩ = some (.int .i64 ((rd_T29 l2 x9_1).f2)) := (blk_cell BK231.out 2).trans rfl
                      have hfz26_0 := blk_frozen BK231.out 0
                      have hfz26_1 := blk_frozen BK231.out 1
                      have hfz26_2 := blk_frozen BK231.out 2
                      go_wp2_with (first | (go_at_call 14; (with_reducible refine (laws_a2Sum.calls k1 _ _ ((rd_T29 l2 x9_1).f1) t238 _ ?side1 ?side2 A22.out).mono ?_); (case side1 => repeat (first | exact (Kd.C_below HR230_1.out HB.out) | (with_reducible refine Kd.C_alloc ?_ _) | (with_reducible refine Kd.C_drewN ?_ _) | (with_reducible refine Kd.C_drew ?_))); (case side2 => exact HC230_1.out); rintro e w' ⟨rfl, ⟨nd, rfl⟩⟩))
                      go_meet
                      case rel => exact ⟨_, (true), (by first | rfl | (simp; done) | (simp [*]; done)), H', ⟨by have := HK1.out; first | omega | exact Nat.le_refl _⟩, ⟨by (with_reducible repeat (first | refine blk_drewN ?_ _ | refine blk_drew ?_ | refine blk_alloc ?_ _)); exact BK231.out⟩, ⟨by repeat (first | (with_reducible first | exact HB.out | apply below_alloc | apply pw_below_drewN | apply below_drew1 | refine below_set ?_ GE231.out) | exact HB.out)⟩⟩
                    · rw [if_neg c25] at H
                      have c25b0 : decide (t234 < 0) = false := decide_eq_false c25
                      clear c25
                      by_cases c27 : t234 > t232
                      · rw [if_pos c27] at H
                        have c27b0 : decide (t232 < t234) = true := decide_eq_true c27
                        clear c27
                        have H' := Aside0.mk H
                        clear H
                        have hcz28_0 : w20.cell? ⟨gb231, 0, none⟩ = some (.string ((rd_T29 l2 x9_1).f0)) := (blk_cell BK231.out 0).trans rfl
                        have hcz28_1 : w20.cell? ⟨gb231, 1, none⟩ = some (.slice A230_1 ((rd_T29 l2 x9_1).f1).length c230_1) := (blk_cell BK231.out 1).trans rfl
                        have hcz28_2 : w20.cell? ⟨gb231, 2, none⟩ = some (.int .i64 ((rd_T29 l2 x9_1).f2)) := (blk_cell BK231.out 2).trans rfl
                        have hfz28_0 := blk_frozen BK231.out 0
                        have hfz28_1 := blk_frozen BK231.out 1
                        have hfz28_2 := blk_frozen BK231.out 2
                        go_wp2_with (first | (go_at_call 14; (with_reducible refine (laws_a2Sum.calls k1 _ _ ((rd_T29 l2 x9_1).f1) t238 _ ?side1 ?side2 A22.out).mono ?_); (case side1 => repeat (first | exact (Kd.C_below HR230_1.out HB.out) | (with_reducible refine Kd.C_alloc ?_ _) | (with_reducible refine Kd.C_drewN ?_ _) | (with_reducible refine Kd.C_drew ?_))); (case side2 => exact HC230_1.out); rintro e w' ⟨rfl, ⟨nd, rfl⟩⟩))
                        go_meet
                        case rel => exact ⟨_, (true), (by first | rfl | (simp; done) | (simp [*]; done)), H', ⟨by have := HK1.out; first | omega | exact Nat.le_refl _⟩, ⟨by (with_reducible repeat (first | refine blk_drewN ?_ _ | refine blk_drew ?_ | refine blk_alloc ?_ _)); exact BK231.out⟩, ⟨by repeat (first | (with_reducible first | exact HB.out | apply below_alloc | apply pw_below_drewN | apply below_drew1 | refine below_set ?_ GE231.out) | exact HB.out)⟩⟩
                      · rw [if_neg c27] at H
                        have c27b0 : decide (t232 < t234) = false := decide_eq_false c27
                        clear c27
                        by_cases c29 : t237 = 0
                        · rw [if_pos c29] at H
                          have c29b0 : (t237 == 0) = true := beq_iff_eq.mpr c29
                          have c29b1 : (t237 != 0) = false := bne_eq_false_iff_eq.mpr c29
                          clear c29
                          have H' := Aside0.mk H
                          clear H
                          have hcz30_0 : w20.cell? ⟨gb231, 0, none⟩ = some (.string ((rd_T29 l2 x9_1).f0)) := (blk_cell BK231.out 0).trans rfl
                          have hcz30_1 : w20.cell? ⟨gb231, 1, none⟩ = some (.slice A230_1 ((rd_T29 l2 x9_1).f1).length c230_1) := (blk_cell BK231.out 1).trans rfl
                          have hcz30_2 : w20.cell? ⟨gb231, 2, none⟩ = some (.int .i64 ((rd_T29 l2 x9_1).f2)) := (blk_cell BK231.out 2).trans rfl
                          have hfz30_0 := blk_frozen BK231.out 0
                          have hfz30_1 := blk_frozen BK231.out 1
                          have hfz30_2 := blk_frozen BK231.out 2
                          go_wp2_with (first | (go_at_call 14; (with_reducible refine (laws_a2Sum.calls k1 _ _ ((rd_T29 l2 x9_1).f1) t238 _ ?side1 ?side2 A22.out).mono ?_); (case side1 => repeat (first | exact (Kd.C_below HR230_1.out HB.out) | (with_reducible refine Kd.C_alloc ?_ _) | (with_reducible refine Kd.C_drewN ?_ _) | (with_reducible refine Kd.C_drew ?_))); (case side2 => exact HC230_1.out); rintro e w' ⟨rfl, ⟨nd, rfl⟩⟩))
                          go_meet
                          case rel => exact ⟨_, ((t236 != (wrap64 (Int.tdiv (wrap64 ((wrap64 ((wrap64 (((rd_T29 l2 x9_1).f2) * t232)) * 100)) + (wrap64 ((wrap64 (((rd_T29 l2 x9_1).f2) * t234)) * t229)))) 6000)))), (by first | rfl | (simp; done) | (simp [*]; done)), H', ⟨by have := HK1.out; first | omega | exact Nat.le_refl _⟩, ⟨by (with_reducible repeat (first | refine blk_drewN ?_ _ | refine blk_drew ?_ | refine blk_alloc ?_ _)); exact BK231.out⟩, ⟨by repeat (first | (with_reducible first | exact HB.out | apply below_alloc | apply pw_below_drewN | apply below_drew1 | refine below_set ?_ GE231.out) | exact HB.out)⟩⟩
                        · rw [if_neg c29] at H
                          have c29b0 : (t237 == 0) = false := beq_eq_false_iff_ne.mpr c29
                          have c29b1 : (t237 != 0) = true := bne_iff_ne.mpr c29
                          have H' := Aside0.mk H
                          clear H
                          have hcz31_0 : w20.cell? ⟨gb231, 0, none⟩ = some (.string ((rd_T29 l2 x9_1).f0)) := (blk_cell BK231.out 0).trans rfl
                          have hcz31_1 : w20.cell? ⟨gb231, 1, none⟩ = some (.slice A230_1 ((rd_T29 l2 x9_1).f1).length c230_1) := (blk_cell BK231.out 1).trans rfl
                          have hcz31_2 : w20.cell? ⟨gb231, 2, none⟩ = some (.int .i64 ((rd_T29 l2 x9_1).f2)) := (blk_cell BK231.out 2).trans rfl
                          have hfz31_0 := blk_frozen BK231.out 0
                          have hfz31_1 := blk_frozen BK231.out 1
                          have hfz31_2 := blk_frozen BK231.out 2
                          go_wp2_with (first | (go_at_call 14; (with_reducible refine (laws_a2Sum.calls k1 _ _ ((rd_T29 l2 x9_1).f1) t238 _ ?side1 ?side2 A22.out).mono ?_); (case side1 => repeat (first | exact (Kd.C_below HR230_1.out HB.out) | (with_reducible refine Kd.C_alloc ?_ _) | (with_reducible refine Kd.C_drewN ?_ _) | (with_reducible refine Kd.C_drew ?_))); (case side2 => exact HC230_1.out); rintro e w' ⟨rfl, ⟨nd, rfl⟩⟩))
                          go_meet
                          case rel => exact ⟨_, (true), (by first | rfl | (simp; done) | (simp [*]; done)), H', ⟨by have := HK1.out; first | omega | exact Nat.le_refl _⟩, ⟨by (with_reducible repeat (first | refine blk_drewN ?_ _ | refine blk_drew ?_ | refine blk_alloc ?_ _)); exact BK231.out⟩, ⟨by repeat (first | (with_reducible first | exact HB.out | apply below_alloc | apply pw_below_drewN | apply below_drew1 | refine below_set ?_ GE231.out) | exact HB.out)⟩⟩
                  · rw [if_neg c24] at H
                    have c24b0 : (t235 == 0) = false := beq_eq_false_iff_ne.mpr c24
                    have c24b1 : (t235 != 0) = true := bne_iff_ne.mpr c24
                    have H' := Aside0.mk H
                    clear H
                    have hcz32_0 : w20.cell? ⟨gb231, 0, none⟩ = some (.string ((rd_T29 l2 x9_1).f0)) := (blk_cell BK231.out 0).trans rfl
                    have hcz32_1 : w20.cell? ⟨gb231, 1, none⟩ = some (.slice A230_1 ((rd_T29 l2 x9_1).f1).length c230_1) := (blk_cell BK231.out 1).trans rfl
                    have hcz32_2 : w20.cell? ⟨gb231, 2, none⟩ = some (.int .i64 ((rd_T29 l2 x9_1).f2)) := (blk_cell BK231.out 2).trans rfl
                    have hfz32_0 := blk_frozen BK231.out 0
                    have hfz32_1 := blk_frozen BK231.out 1
                    have hfz32_2 := blk_frozen BK231.out 2
                    go_wp2_with (first | (go_at_call 14; (with_reducible refine (laws_a2Sum.calls k1 _ _ ((rd_T29 l2 x9_1).f1) t238 _ ?side1 ?side2 A22.out).mono ?_); (case side1 => repeat (first | exact (Kd.C_below HR230_1.out HB.out) | (with_reducible refine Kd.C_alloc ?_ _) | (with_reducible refine Kd.C_drewN ?_ _) | (with_reducible refine Kd.C_drew ?_))); (case side2 => exact HC230_1.out); rintro e w' ⟨rfl, ⟨nd, rfl⟩⟩))
                    go_meet
                    case rel => exact ⟨_, (true), (by first | rfl | (simp; done) | (simp [*]; done)), H', ⟨by have := HK1.out; first | omega | exact Nat.le_refl _⟩, ⟨by (with_reducible repeat (first | refine blk_drewN ?_ _ | refine blk_drew ?_ | refine blk_alloc ?_ _)); exact BK231.out⟩, ⟨by repeat (first | (with_reducible first | exact HB.out | apply below_alloc | apply pw_below_drewN | apply below_drew1 | refine below_set ?_ GE231.out) | exact HB.out)⟩⟩
                · rw [if_neg c23] at H
                  have c23b0 : (t232 == t238) = false := beq_eq_false_iff_ne.mpr c23
                  have c23b1 : (t232 != t238) = true := bne_iff_ne.mpr c23
                  have H' := Aside0.mk H
                  clear H
                  have hcz33_0 : w20.cell? ⟨gb231, 0, none⟩ = some (.string ((rd_T29 l2 x9_1).f0)) := (blk_cell BK231.out 0).trans rfl
                  have hcz33_1 : w20.cell? ⟨gb231, 1, none⟩ = some (.slice A230_1 ((rd_T29 l2 x9_1).f1).length c230_1) := (blk_cell BK231.out 1).trans rfl
                  have hcz33_2 : w20.cell? ⟨gb231, 2, none⟩ = some (.int .i64 ((rd_T29 l2 x9_1).f2)) := (blk_cell BK231.out 2).trans rfl
                  have hfz33_0 := blk_frozen BK231.out 0
                  have hfz33_1 := blk_frozen BK231.out 1
                  have hfz33_2 := blk_frozen BK231.out 2
                  go_wp2_with (first | (go_at_call 14; (with_reducible refine (laws_a2Sum.calls k1 _ _ ((rd_T29 l2 x9_1).f1) t238 _ ?side1 ?side2 A22.out).mono ?_); (case side1 => repeat (first | exact (Kd.C_below HR230_1.out HB.out) | (with_reducible refine Kd.C_alloc ?_ _) | (with_reducible refine Kd.C_drewN ?_ _) | (with_reducible refine Kd.C_drew ?_))); (case side2 => exact HC230_1.out); rintro e w' ⟨rfl, ⟨nd, rfl⟩⟩))
                  go_meet
                  case rel => exact ⟨_, (true), (by first | rfl | (simp; done) | (simp [*]; done)), H', ⟨by have := HK1.out; first | omega | exact Nat.le_refl _⟩, ⟨by (with_reducible repeat (first | refine blk_drewN ?_ _ | refine blk_drew ?_ | refine blk_alloc ?_ _)); exact BK231.out⟩, ⟨by repeat (first | (with_reducible first | exact HB.out | apply below_alloc | apply pw_below_drewN | apply below_drew1 | refine below_set ?_ GE231.out) | exact HB.out)⟩⟩
              · rw [if_neg c21] at H
                have c21b0 : (t233 == 0) = false := beq_eq_false_iff_ne.mpr c21
                have c21b1 : (t233 != 0) = true := bne_iff_ne.mpr c21
                (first | rw [c21b0] | (simp only [i64_w, i32_w]; rw [c21b0]) | skip)
                have H' := Aside0.mk H
                clear H
                go_wp2
                go_meet
                case rel => exact ⟨_, (true), (by first | rfl | (simp; done) | (simp [*]; done)), H', ⟨by have := HK1.out; first | omega | exact Nat.le_refl _⟩, ⟨by (with_reducible repeat (first | refine blk_drewN ?_ _ | refine blk_drew ?_ | refine blk_alloc ?_ _)); exact BK231.out⟩, ⟨by repeat (first | (with_reducible first | exact HB.out | apply below_alloc | apply pw_below_drewN | apply below_drew1 | refine below_set ?_ GE231.out) | exact HB.out)⟩⟩
            case rest => as_aux_lemma =>
              clear HC13
              try clear c1
              try clear c2
              try clear p2
              try clear q2
              try clear hx2
              try clear c3
              try clear c5
              try clear p6
              try clear c8
              try clear c8b0
              try clear c9
              try clear c9b0
              try clear c10
              try clear c11
              try clear c12
              try clear c13
              try clear c21
              try clear c21b0
              try clear c21b1
              try clear c23
              try clear c23b0
              try clear c23b1
              try clear p23
              try clear q23
              try clear hx23
              try clear c24
              try clear c24b0
              try clear c24b1
              try clear c25
              try clear c25b0
              try clear c27
              try clear c27b0
              try clear c29
              try clear c29b0
              try clear c29b1
              try clear hcz15_0
              try clear hcz15_1
              try clear hcz15_2
              try clear hcz17_0
              try clear hcz17_1
              try clear hcz17_2
              try clear hcz19_0
              try clear hcz19_1
              try clear hcz19_2
              try clear hcz26_0
              try clear hcz26_1
              try clear hcz26_2
              try clear hcz28_0
              try clear hcz28_1
              try clear hcz28_2
              try clear hcz30_0
              try clear hcz30_1
              try clear hcz30_2
              try clear hcz31_0
              try clear hcz31_1
              try clear hcz31_2
              try clear hcz32_0
              try clear hcz32_1
              try clear hcz32_2
              try clear hcz33_0
              try clear hcz33_1
              try clear hcz33_2
              try clear hfz15_0
              try clear hfz15_1
              try clear hfz15_2
              try clear hfz17_0
              try clear hfz17_1
              try clear hfz17_2
              try clear hfz19_0
              try clear hfz19_1
              try clear hfz19_2
              try clear hfz26_0
              try clear hfz26_1
              try clear hfz26_2
              try clear hfz28_0
              try clear hfz28_1
              try clear hfz28_2
              try clear hfz30_0
              try clear hfz30_1
              try clear hfz30_2
              try clear hfz31_0
              try clear hfz31_1
              try clear hfz31_2
              try clear hfz32_0
              try clear hfz32_1
              try clear hfz32_2
              try clear hfz33_0
              try clear hfz33_1
              try clear hfz33_2
              try clear hx230_0
              try clear hx230_1
              try clear hx230_2
              try clear p2
              try clear p230
              try clear p6
              try clear q230
              obtain ⟨kq, x108_12, rfl, HA, HJ12, BK231, HB⟩ := hcut
              cases kq with
              | zero => exact absurd HA.out (by simp [laws_FnHands.j1])
              | succ kj12 =>
                have H := HA.out
                clear HA
                simp only [laws_FnHands.j1] at H
                by_cases c34 : x108_12 = true
                · subst c34
                  have H1 : (some false) = some r := by rw [if_pos rfl] at H; exact H
                  clear H
                  have H := H1
                  clear H1
                  obtain rfl := Option.some.inj H
                  go_wp2
                  go_ret
                  exact ⟨by first | rfl | (simp [errW_none, errW_some] <;> rfl) | (simp [*, errW_none, errW_some] <;> rfl), below_step HBZ.out (by repeat (first | (with_reducible first | exact HB.out | apply below_alloc | apply pw_below_drewN | apply below_drew1 | refine below_set ?_ GE231.out) | exact HB.out))⟩
                · replace c34 := Bool.eq_false_iff.mpr c34
                  subst c34
                  have H1 : (laws_FnHands.l1 kj12 l1 l2 (wrap64 (60 * t228)) t229 (wrap64 (x8_1 + t232)) x9_1 t234 0 0 0 0 0 ((rd_T29 l2 x9_1).f0) ((rd_T29 l2 x9_1).f1) ((rd_T29 l2 x9_1).f2)) = some r := by rw [if_neg (show ¬ (false = true) by decide)] at H; exact H
                  clear H
                  have H := H1
                  clear H1
                  have H' := Aside0.mk H
                  clear H
                  go_wp2
                  go_loopg [17, 18, 19, 20, 21] kj12 (fun kq v17 v18 v19 v20 v21 w' => ∃ (x17_3 : Int) (x18_3 : Int) (x19_3 : Int) (x20_3 : Int) (x21_3 : Int), v17 = .int .i64 x17_3 ∧ v18 = .int .i64 x18_3 ∧ v19 = .int .i64 x19_3 ∧ v20 = .int .i64 x20_3 ∧ v21 = .int .i64 x21_3 ∧ Aside0 (laws_FnHands.l1 kq l1 l2 (wrap64 (60 * t228)) t229 (wrap64 (x8_1 + t232)) x9_1 t234 x17_3 x18_3 x19_3 x20_3 x21_3 ((rd_T29 l2 x9_1).f0) ((rd_T29 l2 x9_1).f1) ((rd_T29 l2 x9_1).f2) = some r) ∧ Aside0 (kq ≤ kj12) ∧ Aside0 (w'.heap[gb231]? = some (.cells #[.string ((rd_T29 l2 x9_1).f0), (.slice A230_1 ((rd_T29 l2 x9_1).f1).length c230_1), .int .i64 ((rd_T29 l2 x9_1).f2)] 29 (0, 0))) ∧ Aside0 (Below w.heap.size w w'))
                  case atStart => exact ⟨(0), (0), (0), (0), (0), (by first | rfl | (simp; done) | (simp [*]; done)), (by first | rfl | (simp; done) | (simp [*]; done)), (by first | rfl | (simp; done) | (simp [*]; done)), (by first | rfl | (simp; done) | (simp [*]; done)), (by first | rfl | (simp; done) | (simp [*]; done)), H', ⟨Nat.le_refl _⟩, ⟨by (with_reducible repeat (first | refine blk_drewN ?_ _ | refine blk_drew ?_ | refine blk_alloc ?_ _)); exact BK231.out⟩, ⟨by repeat (first | (with_reducible first | exact HB.out | apply below_alloc | apply pw_below_drewN | apply below_drew1 | refine below_set ?_ GE231.out) | exact HB.out)⟩⟩
                  case round =>
                    clear H'
                    try clear c1
                    try clear c2
                    try clear p2
                    try clear q2
                    try clear hx2
                    try clear c3
                    try clear c5
                    try clear p6
                    try clear c8
                    try clear c8b0
                    try clear c9
                    try clear c9b0
                    try clear c10
                    try clear c11
                    try clear c12
                    try clear c13
                    try clear c21
                    try clear c21b0
                    try clear c21b1
                    try clear c23
                    try clear c23b0
                    try clear c23b1
                    try clear p23
                    try clear q23
                    try clear hx23
                    try clear c24
                    try clear c24b0
                    try clear c24b1
                    try clear c25
                    try clear c25b0
                    try clear c27
                    try clear c27b0
                    try clear c29
                    try clear c29b0
                    try clear c29b1
                    try clear c34
                    try clear hcz15_0
                    try clear hcz15_1
                    try clear hcz15_2
                    try clear hcz17_0
                    try clear hcz17_1
                    try clear hcz17_2
                    try clear hcz19_0
                    try clear hcz19_1
                    try clear hcz19_2
                    try clear hcz26_0
                    try clear hcz26_1
                    try clear hcz26_2
                    try clear hcz28_0
                    try clear hcz28_1
                    try clear hcz28_2
                    try clear hcz30_0
                    try clear hcz30_1
                    try clear hcz30_2
                    try clear hcz31_0
                    try clear hcz31_1
                    try clear hcz31_2
                    try clear hcz32_0
                    try clear hcz32_1
                    try clear hcz32_2
                    try clear hcz33_0
                    try clear hcz33_1
                    try clear hcz33_2
                    try clear hfz15_0
                    try clear hfz15_1
                    try clear hfz15_2
                    try clear hfz17_0
                    try clear hfz17_1
                    try clear hfz17_2
                    try clear hfz19_0
                    try clear hfz19_1
                    try clear hfz19_2
                    try clear hfz26_0
                    try clear hfz26_1
                    try clear hfz26_2
                    try clear hfz28_0
                    try clear hfz28_1
                    try clear hfz28_2
                    try clear hfz30_0
                    try clear hfz30_1
                    try clear hfz30_2
                    try clear hfz31_0
                    try clear hfz31_1
                    try clear hfz31_2
                    try clear hfz32_0
                    try clear hfz32_1
                    try clear hfz32_2
                    try clear hfz33_0
                    try clear hfz33_1
                    try clear hfz33_2
                    try clear hx230_0
                    try clear hx230_1
                    try clear hx230_2
                    try clear p2
                    try clear p23
                    try clear p230
                    try clear p6
                    try clear q2
                    try clear q23
                    try clear q230
                    obtain ⟨x17_3, x18_3, x19_3, x20_3, x21_3, rfl, rfl, rfl, rfl, rfl, HA, HK3, BK231, HB⟩ := hrel
                    cases gk with
                    | zero => exact absurd HA.out (by simp [laws_FnHands.l1])
                    | succ k3 =>
                      have H := HA.out
                      clear HA
                      simp only [laws_FnHands.l1] at H
                      by_cases c35 : x21_3 < (((rd_T29 l2 x9_1).f1).length : Int)
                      · rw [if_pos c35] at H
                        have c35b0 : decide (x21_3 < (((rd_T29 l2 x9_1).f1).length : Int)) = true := decide_eq_true c35
                        clear c35
                        by_cases c36 : 0 ≤ x21_3
                        · rw [if_pos c36] at H
                          have c36b0 : decide (0 ≤ x21_3) = true := decide_eq_true c36
                          clear c36
                          obtain ⟨ji37, hji37⟩ : ∃ j_ : Int, (mx 0 (wrap64 ((rd ((rd_T29 l2 x9_1).f1) x21_3) - (wrap64 (60 * t228))))) = j_ := ⟨_, rfl⟩
                          replace H : (if (rd ((rd_T29 l2 x9_1).f1) x21_3) = 0 then (if 0 > x19_3 then (laws_FnHands.l1 k3 l1 l2 (wrap64 (60 * t228)) t229 (wrap64 (x8_1 + t232)) x9_1 t234 (wrap64 (x17_3 + (ji37))) 0 0 (wrap64 ((wrap64 (x21_3 + 1)) - 0)) (wrap64 (x21_3 + 1)) ((rd_T29 l2 x9_1).f0) ((rd_T29 l2 x9_1).f1) ((rd_T29 l2 x9_1).f2)) else (laws_FnHands.l1 k3 l1 l2 (wrap64 (60 * t228)) t229 (wrap64 (x8_1 + t232)) x9_1 t234 (wrap64 (x17_3 + (ji37))) 0 x19_3 x20_3 (wrap64 (x21_3 + 1)) ((rd_T29 l2 x9_1).f0) ((rd_T29 l2 x9_1).f1) ((rd_T29 l2 x9_1).f2))) else (if (wrap64 (x18_3 + 1)) > x19_3 then (laws_FnHands.l1 k3 l1 l2 (wrap64 (60 * t228)) t229 (wrap64 (x8_1 + t232)) x9_1 t234 (wrap64 (x17_3 + (ji37))) (wrap64 (x18_3 + 1)) (wrap64 (x18_3 + 1)) (wrap64 ((wrap64 (x21_3 + 1)) - (wrap64 (x18_3 + 1)))) (wrap64 (x21_3 + 1)) ((rd_T29 l2 x9_1).f0) ((rd_T29 l2 x9_1).f1) ((rd_T29 l2 x9_1).f2)) else (laws_FnHands.l1 k3 l1 l2 (wrap64 (60 * t228)) t229 (wrap64 (x8_1 + t232)) x9_1 t234 (wrap64 (x17_3 + (ji37))) (wrap64 (x18_3 + 1)) x19_3 x20_3 (wrap64 (x21_3 + 1)) ((rd_T29 l2 x9_1).f0) ((rd_T29 l2 x9_1).f1) ((rd_T29 l2 x9_1).f2)))) = some r := by first | (rw [hji37] at H; exact H) | (simp only [hji37] at H ⊢; exact H)
                          have hji37_ : (if 0 < (wrap64 ((rd ((rd_T29 l2 x9_1).f1) x21_3) - (wrap64 (60 * t228)))) then (wrap64 ((rd ((rd_T29 l2 x9_1).f1) x21_3) - (wrap64 (60 * t228)))) else 0) = ji37 := hji37
                          by_cases c38 : (rd ((rd_T29 l2 x9_1).f1) x21_3) = 0
                          · rw [if_pos c38] at H
                            have c38b0 : ((rd ((rd_T29 l2 x9_1).f1) x21_3) == 0) = true := beq_iff_eq.mpr c38
                            have c38b1 : ((rd ((rd_T29 l2 x9_1).f1) x21_3) != 0) = false := bne_eq_false_iff_eq.mpr c38
                            clear c38
                            by_cases c39 : 0 > x19_3
                            · rw [if_pos c39] at H
                              have c39b0 : decide (x19_3 < 0) = true := decide_eq_true c39
                              clear c39
                              have H' := Aside0.mk H
                              clear H
                              have hcz40_0 : wr.cell? ⟨gb231, 0, none⟩ = some (.string ((rd_T29 l2 x9_1).f0)) := (blk_cell BK231.out 0).trans rfl
                              have hcz40_1 : wr.cell? ⟨gb231, 1, none⟩ = some (.slice A230_1 ((rd_T29 l2 x9_1).f1).length c230_1) := (blk_cell BK231.out 1).trans rfl
                              have hcz40_2 : wr.cell? ⟨gb231, 2, none⟩ = some (.int .i64 ((rd_T29 l2 x9_1).f2)) := (blk_cell BK231.out 2).trans rfl
                              have hfz40_0 := blk_frozen BK231.out 0
                              have hfz40_1 := blk_frozen BK231.out 1
                              have hfz40_2 := blk_frozen BK231.out 2
                              have p242 : 0 ≤ (x21_3 : Int) := of_decide_eq_true (by first | (with_reducible assumption) | assumption)
                              have q242 : x21_3 < (((rd_T29 l2 x9_1).f1).length : Int) := of_decide_eq_true (by first | (with_reducible assumption) | assumption)
                              obtain ⟨ad242, e242, hx242_0⟩ := Kd.at_int HR230_1.out x21_3 p242 q242
                              cases e242
                              replace hx242_0 := (HB.out.cell (World.block_lt_of_cell? w _ hx242_0)).trans hx242_0
                              replace p242 := eq_true p242
                              replace q242 := eq_true q242
                              have p243 : 0 ≤ (x21_3 : Int) := of_decide_eq_true (by first | (with_reducible assumption) | assumption)
                              have q243 : x21_3 < (((rd_T29 l2 x9_1).f1).length : Int) := of_decide_eq_true (by first | (with_reducible assumption) | assumption)
                              obtain ⟨ad243, e243, hx243_0⟩ := Kd.at_int HR230_1.out x21_3 p243 q243
                              obtain rfl : ad242 = ad243 := (by injection e243)
                              replace hx243_0 := (HB.out.cell (World.block_lt_of_cell? w _ hx243_0)).trans hx243_0
                              replace p243 := eq_true p243
                              replace q243 := eq_true q243
                              go_wp2
                              go_roundg k3
                              case measure => have := HK1.out; have := HJ12.out; have := HK3.out; omega
                              case rel => exact ⟨(wrap64 (x17_3 + (ji37))), (0), (0), (wrap64 ((wrap64 (x21_3 + 1)) - 0)), (wrap64 (x21_3 + 1)), (by first | rfl | (simp; done) | (simp only [← hji37] <;> (first | rfl | simp)) | (simp [*]; done)), (by first | rfl | (simp; done) | (simp [*]; done)), (by first | rfl | (simp; done) | (simp [*]; done)), (by first | rfl | (simp; done) | (simp [*]; done)), (by first | rfl | (simp; done) | (simp [*]; done)), H', ⟨by have := HK1.out; have := HJ12.out; have := HK3.out; omega⟩, ⟨by (with_reducible repeat (first | refine blk_drewN ?_ _ | refine blk_drew ?_ | refine blk_alloc ?_ _)); exact BK231.out⟩, ⟨by repeat (first | (with_reducible first | exact HB.out | apply below_alloc | apply pw_below_drewN | apply below_drew1 | refine below_set ?_ GE231.out) | exact HB.out)⟩⟩
                            · rw [if_neg c39] at H
                              have c39b0 : decide (x19_3 < 0) = false := decide_eq_false c39
                              clear c39
                              have H' := Aside0.mk H
                              clear H
                              have hcz41_0 : wr.cell? ⟨gb231, 0, none⟩ = some (.string ((rd_T29 l2 x9_1).f0)) := (blk_cell BK231.out 0).trans rfl
                              have hcz41_1 : wr.cell? ⟨gb231, 1, none⟩ = some (.slice A230_1 ((rd_T29 l2 x9_1).f1).length c230_1) := (blk_cell BK231.out 1).trans rfl
                              have hcz41_2 : wr.cell? ⟨gb231, 2, none⟩ = some (.int .i64 ((rd_T29 l2 x9_1).f2)) := (blk_cell BK231.out 2).trans rfl
                              have hfz41_0 := blk_frozen BK231.out 0
                              have hfz41_1 := blk_frozen BK231.out 1
                              have hfz41_2 := blk_frozen BK231.out 2
                              have p242 : 0 ≤ (x21_3 : Int) := of_decide_eq_true (by first | (with_reducible assumption) | assumption)
                              have q242 : x21_3 < (((rd_T29 l2 x9_1).f1).length : Int) := of_decide_eq_true (by first | (with_reducible assumption) | assumption)
                              obtain ⟨ad242, e242, hx242_0⟩ := Kd.at_int HR230_1.out x21_3 p242 q242
                              cases e242
                              replace hx242_0 := (HB.out.cell (World.block_lt_of_cell? w _ hx242_0)).trans hx242_0
                              replace p242 := eq_true p242
                              replace q242 := eq_true q242
                              have p243 : 0 ≤ (x21_3 : Int) := of_decide_eq_true (by first | (with_reducible assumption) | assumption)
                              have q243 : x21_3 < (((rd_T29 l2 x9_1).f1).length : Int) := of_decide_eq_true (by first | (with_reducible assumption) | assumption)
                              obtain ⟨ad243, e243, hx243_0⟩ := Kd.at_int HR230_1.out x21_3 p243 q243
                              obtain rfl : ad242 = ad243 := (by injection e243)
                              replace hx243_0 := (HB.out.cell (World.block_lt_of_cell? w _ hx243_0)).trans hx243_0
                              replace p243 := eq_true p243
                              replace q243 := eq_true q243
                              go_wp2
                              go_roundg k3
                              case measure => have := HK1.out; have := HJ12.out; have := HK3.out; omega
                              case rel => exact ⟨(wrap64 (x17_3 + (ji37))), (0), (x19_3), (x20_3), (wrap64 (x21_3 + 1)), (by first | rfl | (simp; done) | (simp only [← hji37] <;> (first | rfl | simp)) | (simp [*]; done)), (by first | rfl | (simp; done) | (simp [*]; done)), (by first | rfl | (simp; done) | (simp [*]; done)), (by first | rfl | (simp; done) | (simp [*]; done)), (by first | rfl | (simp; done) | (simp [*]; done)), H', ⟨by have := HK1.out; have := HJ12.out; have := HK3.out; omega⟩, ⟨by (with_reducible repeat (first | refine blk_drewN ?_ _ | refine blk_drew ?_ | refine blk_alloc ?_ _)); exact BK231.out⟩, ⟨by repeat (first | (with_reducible first | exact HB.out | apply below_alloc | apply pw_below_drewN | apply below_drew1 | refine below_set ?_ GE231.out) | exact HB.out)⟩⟩
                          · rw [if_neg c38] at H
                            have c38b0 : ((rd ((rd_T29 l2 x9_1).f1) x21_3) == 0) = false := beq_eq_false_iff_ne.mpr c38
                            have c38b1 : ((rd ((rd_T29 l2 x9_1).f1) x21_3) != 0) = true := bne_iff_ne.mpr c38
                            by_cases c42 : (wrap64 (x18_3 + 1)) > x19_3
                            · rw [if_pos c42] at H
                              have c42b0 : decide (x19_3 < (wrap64 (x18_3 + 1))) = true := decide_eq_true c42
                              clear c42
                              have H' := Aside0.mk H
                              clear H
                              have hcz43_0 : wr.cell? ⟨gb231, 0, none⟩ = some (.string ((rd_T29 l2 x9_1).f0)) := (blk_cell BK231.out 0).trans rfl
                              have hcz43_1 : wr.cell? ⟨gb231, 1, none⟩ = some (.slice A230_1 ((rd_T29 l2 x9_1).f1).length c230_1) := (blk_cell BK231.out 1).trans rfl
                              have hcz43_2 : wr.cell? ⟨gb231, 2, none⟩ = some (.int .i64 ((rd_T29 l2 x9_1).f2)) := (blk_cell BK231.out 2).trans rfl
                              have hfz43_0 := blk_frozen BK231.out 0
                              have hfz43_1 := blk_frozen BK231.out 1
                              have hfz43_2 := blk_frozen BK231.out 2
                              have p242 : 0 ≤ (x21_3 : Int) := of_decide_eq_true (by first | (with_reducible assumption) | assumption)
                              have q242 : x21_3 < (((rd_T29 l2 x9_1).f1).length : Int) := of_decide_eq_true (by first | (with_reducible assumption) | assumption)
                              obtain ⟨ad242, e242, hx242_0⟩ := Kd.at_int HR230_1.out x21_3 p242 q242
                              cases e242
                              replace hx242_0 := (HB.out.cell (World.block_lt_of_cell? w _ hx242_0)).trans hx242_0
                              replace p242 := eq_true p242
                              replace q242 := eq_true q242
                              have p243 : 0 ≤ (x21_3 : Int) := of_decide_eq_true (by first | (with_reducible assumption) | assumption)
                              have q243 : x21_3 < (((rd_T29 l2 x9_1).f1).length : Int) := of_decide_eq_true (by first | (with_reducible assumption) | assumption)
                              obtain ⟨ad243, e243, hx243_0⟩ := Kd.at_int HR230_1.out x21_3 p243 q243
                              obtain rfl : ad242 = ad243 := (by injection e243)
                              replace hx243_0 := (HB.out.cell (World.block_lt_of_cell? w _ hx243_0)).trans hx243_0
                              replace p243 := eq_true p243
                              replace q243 := eq_true q243
                              go_wp2
                              go_roundg k3
                              case measure => have := HK1.out; have := HJ12.out; have := HK3.out; omega
                              case rel => exact ⟨(wrap64 (x17_3 + (ji37))), (wrap64 (x18_3 + 1)), (wrap64 (x18_3 + 1)), (wrap64 ((wrap64 (x21_3 + 1)) - (wrap64 (x18_3 + 1)))), (wrap64 (x21_3 + 1)), (by first | rfl | (simp; done) | (simp only [← hji37] <;> (first | rfl | simp)) | (simp [*]; done)), (by first | rfl | (simp; done) | (simp [*]; done)), (by first | rfl | (simp; done) | (simp [*]; done)), (by first | rfl | (simp; done) | (simp [*]; done)), (by first | rfl | (simp; done) | (simp [*]; done)), H', ⟨by have := HK1.out; have := HJ12.out; have := HK3.out; omega⟩, ⟨by (with_reducible repeat (first | refine blk_drewN ?_ _ | refine blk_drew ?_ | refine blk_alloc ?_ _)); exact BK231.out⟩, ⟨by repeat (first | (with_reducible first | exact HB.out | apply below_alloc | apply pw_below_drewN | apply below_drew1 | refine below_set ?_ GE231.out) | exact HB.out)⟩⟩
                            · rw [if_neg c42] at H
                              have c42b0 : decide (x19_3 < (wrap64 (x18_3 + 1))) = false := decide_eq_false c42
                              clear c42
                              have H' := Aside0.mk H
                              clear H
                              have hcz44_0 : wr.cell? ⟨gb231, 0, none⟩ = some (.string ((rd_T29 l2 x9_1).f0)) := (blk_cell BK231.out 0).trans rfl
                              have hcz44_1 : wr.cell? ⟨gb231, 1, none⟩ = some (.slice A230_1 ((rd_T29 l2 x9_1).f1).length c230_1) := (blk_cell BK231.out 1).trans rfl
                              have hcz44_2 : wr.cell? ⟨gb231, 2, none⟩ = some (.int .i64 ((rd_T29 l2 x9_1).f2)) := (blk_cell BK231.out 2).trans rfl
                              have hfz44_0 := blk_frozen BK231.out 0
                              have hfz44_1 := blk_frozen BK231.out 1
                              have hfz44_2 := blk_frozen BK231.out 2
                              have p242 : 0 ≤ (x21_3 : Int) := of_decide_eq_true (by first | (with_reducible assumption) | assumption)
                              have q242 : x21_3 < (((rd_T29 l2 x9_1).f1).length : Int) := of_decide_eq_true (by first | (with_reducible assumption) | assumption)
                              obtain ⟨ad242, e242, hx242_0⟩ := Kd.at_int HR230_1.out x21_3 p242 q242
                              cases e242
                              replace hx242_0 := (HB.out.cell (World.block_lt_of_cell? w _ hx242_0)).trans hx242_0
                              replace p242 := eq_true p242
                              replace q242 := eq_true q242
                              have p243 : 0 ≤ (x21_3 : Int) := of_decide_eq_true (by first | (with_reducible assumption) | assumption)
                              have q243 : x21_3 < (((rd_T29 l2 x9_1).f1).length : Int) := of_decide_eq_true (by first | (with_reducible assumption) | assumption)
                              obtain ⟨ad243, e243, hx243_0⟩ := Kd.at_int HR230_1.out x21_3 p243 q243
                              obtain rfl : ad242 = ad243 := (by injection e243)
                              replace hx243_0 := (HB.out.cell (World.block_lt_of_cell? w _ hx243_0)).trans hx243_0
                              replace p243 := eq_true p243
                              replace q243 := eq_true q243
                              go_wp2
                              go_roundg k3
                              case measure => have := HK1.out; have := HJ12.out; have := HK3.out; omega
                              case rel => exact ⟨(wrap64 (x17_3 + (ji37))), (wrap64 (x18_3 + 1)), (x19_3), (x20_3), (wrap64 (x21_3 + 1)), (by first | rfl | (simp; done) | (simp only [← hji37] <;> (first | rfl | simp)) | (simp [*]; done)), (by first | rfl | (simp; done) | (simp [*]; done)), (by first | rfl | (simp; done) | (simp [*]; done)), (by first | rfl | (simp; done) | (simp [*]; done)), (by first | rfl | (simp; done) | (simp [*]; done)), H', ⟨by have := HK1.out; have := HJ12.out; have := HK3.out; omega⟩, ⟨by (with_reducible repeat (first | refine blk_drewN ?_ _ | refine blk_drew ?_ | refine blk_alloc ?_ _)); exact BK231.out⟩, ⟨by repeat (first | (with_reducible first | exact HB.out | apply below_alloc | apply pw_below_drewN | apply below_drew1 | refine below_set ?_ GE231.out) | exact HB.out)⟩⟩
                        · rw [if_neg c36] at H
                          exact absurd H (by simp)
                      · rw [if_neg c35] at H
                        have c35b0 : decide (x21_3 < (((rd_T29 l2 x9_1).f1).length : Int)) = false := decide_eq_false c35
                        clear c35
                        replace H := Option.bind_eq_some_iff.mp H
                        obtain ⟨⟨t239, t240, t241⟩, A450, H⟩ := H
                        replace H : (if t234 = x17_3 then (if x19_3 = 0 then (if t241 = 3 then (if x19_3 > 0 then (if t241 = 0 then (if t239 = x20_3 then (if t240 = x19_3 then (laws_FnHands.l0 k3 l1 l2 (wrap64 (60 * t228)) t229 (wrap64 (x8_1 + t232)) (wrap64 (x9_1 + 1))) else (some false)) else (some false)) else (some false)) else (laws_FnHands.l0 k3 l1 l2 (wrap64 (60 * t228)) t229 (wrap64 (x8_1 + t232)) (wrap64 (x9_1 + 1)))) else (some false)) else (if x19_3 > 0 then (if t241 = 0 then (if t239 = x20_3 then (if t240 = x19_3 then (laws_FnHands.l0 k3 l1 l2 (wrap64 (60 * t228)) t229 (wrap64 (x8_1 + t232)) (wrap64 (x9_1 + 1))) else (some false)) else (some false)) else (some false)) else (laws_FnHands.l0 k3 l1 l2 (wrap64 (60 * t228)) t229 (wrap64 (x8_1 + t232)) (wrap64 (x9_1 + 1))))) else (some false)) = some r := H
                        have A45 := Aside0.mk A450
                        clear A450
                        by_cases c46 : t234 = x17_3
                        · rw [if_pos c46] at H
                          have c46b0 : (t234 == x17_3) = true := beq_iff_eq.mpr c46
                          have c46b1 : (t234 != x17_3) = false := bne_eq_false_iff_eq.mpr c46
                          clear c46
                          by_cases c47 : x19_3 = 0
                          · rw [if_pos c47] at H
                            have c47b0 : (x19_3 == 0) = true := beq_iff_eq.mpr c47
                            have c47b1 : (x19_3 != 0) = false := bne_eq_false_iff_eq.mpr c47
                            clear c47
                            by_cases c48 : t241 = 3
                            · rw [if_pos c48] at H
                              have c48b0 : (t241 == 3) = true := beq_iff_eq.mpr c48
                              have c48b1 : (t241 != 3) = false := bne_eq_false_iff_eq.mpr c48
                              clear c48
                              by_cases c49 : x19_3 > 0
                              · rw [if_pos c49] at H
                                have c49b0 : decide (0 < x19_3) = true := decide_eq_true c49
                                clear c49
                                by_cases c50 : t241 = 0
                                · rw [if_pos c50] at H
                                  have c50b0 : (t241 == 0) = true := beq_iff_eq.mpr c50
                                  have c50b1 : (t241 != 0) = false := bne_eq_false_iff_eq.mpr c50
                                  clear c50
                                  by_cases c51 : t239 = x20_3
                                  · rw [if_pos c51] at H
                                    have c51b0 : (t239 == x20_3) = true := beq_iff_eq.mpr c51
                                    have c51b1 : (t239 != x20_3) = false := bne_eq_false_iff_eq.mpr c51
                                    clear c51
                                    by_cases c52 : t240 = x19_3
                                    · rw [if_pos c52] at H
                                      have c52b0 : (t240 == x19_3) = true := beq_iff_eq.mpr c52
                                      have c52b1 : (t240 != x19_3) = false := bne_eq_false_iff_eq.mpr c52
                                      clear c52
                                      have H' := Aside0.mk H
                                      clear H
                                      have hcz53_0 : wr.cell? ⟨gb231, 0, none⟩ = some (.string ((rd_T29 l2 x9_1).f0)) := (blk_cell BK231.out 0).trans rfl
                                      have hcz53_1 : wr.cell? ⟨gb231, 1, none⟩ = some (.slice A230_1 ((rd_T29 l2 x9_1).f1).length c230_1) := (blk_cell BK231.out 1).trans rfl
                                      have hcz53_2 : wr.cell? ⟨gb231, 2, none⟩ = some (.int .i64 ((rd_T29 l2 x9_1).f2)) := (blk_cell BK231.out 2).trans rfl
                                      have hfz53_0 := blk_frozen BK231.out 0
                                      have hfz53_1 := blk_frozen BK231.out 1
                                      have hfz53_2 := blk_frozen BK231.out 2
                                      go_wp2_with (first | ((with_reducible refine gate_callee (f := 15) rfl ?_); refine goesL_ (some 147) rfl rfl Try.func15 (by kernel_rfl) rfl #[.agg #[.string ((rd_T29 l2 x9_1).f0), .slice A230_1 ((rd_T29 l2 x9_1).f1).length c230_1, .int .i64 ((rd_T29 l2 x9_1).f2)]] rfl (by (try simp only [List.map_toArray, List.map_cons, List.map_nil]); first | done | rfl | (simp only [List.length_drop, List.length_take]; rfl)) ?_; (with_reducible refine (impl_LongestStreak.calls k3 ((rd_T29 l2 x9_1).f0) _ _ ((rd_T29 l2 x9_1).f1) ((rd_T29 l2 x9_1).f2) t239 t240 t241 _ ?side1 ?side2 A45.out).mono ?_); (case side1 => repeat (first | exact (Kd.C_below HR230_1.out HB.out) | (with_reducible refine Kd.C_alloc ?_ _) | (with_reducible refine Kd.C_drewN ?_ _) | (with_reducible refine Kd.C_drew ?_))); (case side2 => exact HC230_1.out); rintro e w54 ⟨rfl, hb⟩; refine ⟨_, rfl, ?_⟩; have n0_ := Aside0.mk (blk_below (g := gb231) (o := .cells #[.string ((rd_T29 l2 x9_1).f0), .slice A230_1 ((rd_T29 l2 x9_1).f1).length c230_1, .int .i64 ((rd_T29 l2 x9_1).f2)] 29 (0, 0)) (by (with_reducible repeat (first | refine blk_drewN ?_ _ | refine blk_drew ?_ | refine blk_alloc ?_ _)); exact BK231.out) hb); have n1_ := Aside0.mk (below_step (by repeat (first | (with_reducible first | exact HB.out | apply below_alloc | apply pw_below_drewN | apply below_drew1 | refine below_set ?_ GE231.out) | exact HB.out)) hb); clear BK231; clear HB; have BK231 := n0_; have HB := n1_; clear n0_ n1_; (try clear hb); (try clear hb2); (try clear hk); (try clear hi)))
                                      go_roundg k3
                                      case measure => have := HK1.out; have := HJ12.out; have := HK3.out; omega
                                      case rel => exact ⟨((wrap64 (x8_1 + t232))), (wrap64 (x9_1 + 1)), (by first | rfl | (simp; done) | (simp [*]; done)), (by first | rfl | (simp; done) | (simp [*]; done)), H', ⟨by have := HK1.out; have := HJ12.out; have := HK3.out; omega⟩, ⟨by repeat (first | (with_reducible first | exact HB.out | apply below_alloc | apply pw_below_drewN | apply below_drew1 | refine below_set ?_ GE231.out) | exact HB.out)⟩⟩
                                    · rw [if_neg c52] at H
                                      have c52b0 : (t240 == x19_3) = false := beq_eq_false_iff_ne.mpr c52
                                      have c52b1 : (t240 != x19_3) = true := bne_iff_ne.mpr c52
                                      obtain rfl := Option.some.inj H
                                      have hcz55_0 : wr.cell? ⟨gb231, 0, none⟩ = some (.string ((rd_T29 l2 x9_1).f0)) := (blk_cell BK231.out 0).trans rfl
                                      have hcz55_1 : wr.cell? ⟨gb231, 1, none⟩ = some (.slice A230_1 ((rd_T29 l2 x9_1).f1).length c230_1) := (blk_cell BK231.out 1).trans rfl
                                      have hcz55_2 : wr.cell? ⟨gb231, 2, none⟩ = some (.int .i64 ((rd_T29 l2 x9_1).f2)) := (blk_cell BK231.out 2).trans rfl
                                      have hfz55_0 := blk_frozen BK231.out 0
                                      have hfz55_1 := blk_frozen BK231.out 1
                                      have hfz55_2 := blk_frozen BK231.out 2
                                      go_wp2_with (first | ((with_reducible refine gate_callee (f := 15) rfl ?_); refine goesL_ (some 147) rfl rfl Try.func15 (by kernel_rfl) rfl #[.agg #[.string ((rd_T29 l2 x9_1).f0), .slice A230_1 ((rd_T29 l2 x9_1).f1).length c230_1, .int .i64 ((rd_T29 l2 x9_1).f2)]] rfl (by (try simp only [List.map_toArray, List.map_cons, List.map_nil]); first | done | rfl | (simp only [List.length_drop, List.length_take]; rfl)) ?_; (with_reducible refine (impl_LongestStreak.calls k3 ((rd_T29 l2 x9_1).f0) _ _ ((rd_T29 l2 x9_1).f1) ((rd_T29 l2 x9_1).f2) t239 t240 t241 _ ?side1 ?side2 A45.out).mono ?_); (case side1 => repeat (first | exact (Kd.C_below HR230_1.out HB.out) | (with_reducible refine Kd.C_alloc ?_ _) | (with_reducible refine Kd.C_drewN ?_ _) | (with_reducible refine Kd.C_drew ?_))); (case side2 => exact HC230_1.out); rintro e w56 ⟨rfl, hb⟩; refine ⟨_, rfl, ?_⟩; have n0_ := Aside0.mk (blk_below (g := gb231) (o := .cells #[.string ((rd_T29 l2 x9_1).f0), .slice A230_1 ((rd_T29 l2 x9_1).f1).length c230_1, .int .i64 ((rd_T29 l2 x9_1).f2)] 29 (0, 0)) (by (with_reducible repeat (first | refine blk_drewN ?_ _ | refine blk_drew ?_ | refine blk_alloc ?_ _)); exact BK231.out) hb); have n1_ := Aside0.mk (below_step (by repeat (first | (with_reducible first | exact HB.out | apply below_alloc | apply pw_below_drewN | apply below_drew1 | refine below_set ?_ GE231.out) | exact HB.out)) hb); clear BK231; clear HB; have BK231 := n0_; have HB := n1_; clear n0_ n1_; (try clear hb); (try clear hb2); (try clear hk); (try clear hi)))
                                      go_ret
                                      exact ⟨by first | rfl | (simp [errW_none, errW_some] <;> rfl) | (simp [*, errW_none, errW_some] <;> rfl), below_step HBZ.out (by repeat (first | (with_reducible first | exact HB.out | apply below_alloc | apply pw_below_drewN | apply below_drew1 | refine below_set ?_ GE231.out) | exact HB.out))⟩
                                  · rw [if_neg c51] at H
                                    have c51b0 : (t239 == x20_3) = false := beq_eq_false_iff_ne.mpr c51
                                    have c51b1 : (t239 != x20_3) = true := bne_iff_ne.mpr c51
                                    obtain rfl := Option.some.inj H
                                    have hcz57_0 : wr.cell? ⟨gb231, 0, none⟩ = some (.string ((rd_T29 l2 x9_1).f0)) := (blk_cell BK231.out 0).trans rfl
                                    have hcz57_1 : wr.cell? ⟨gb231, 1, none⟩ = some (.slice A230_1 ((rd_T29 l2 x9_1).f1).length c230_1) := (blk_cell BK231.out 1).trans rfl
                                    have hcz57_2 : wr.cell? ⟨gb231, 2, none⟩ = some (.int .i64 ((rd_T29 l2 x9_1).f2)) := (blk_cell BK231.out 2).trans rfl
                                    have hfz57_0 := blk_frozen BK231.out 0
                                    have hfz57_1 := blk_frozen BK231.out 1
                                    have hfz57_2 := blk_frozen BK231.out 2
                                    go_wp2_with (first | ((with_reducible refine gate_callee (f := 15) rfl ?_); refine goesL_ (some 147) rfl rfl Try.func15 (by kernel_rfl) rfl #[.agg #[.string ((rd_T29 l2 x9_1).f0), .slice A230_1 ((rd_T29 l2 x9_1).f1).length c230_1, .int .i64 ((rd_T29 l2 x9_1).f2)]] rfl (by (try simp only [List.map_toArray, List.map_cons, List.map_nil]); first | done | rfl | (simp only [List.length_drop, List.length_take]; rfl)) ?_; (with_reducible refine (impl_LongestStreak.calls k3 ((rd_T29 l2 x9_1).f0) _ _ ((rd_T29 l2 x9_1).f1) ((rd_T29 l2 x9_1).f2) t239 t240 t241 _ ?side1 ?side2 A45.out).mono ?_); (case side1 => repeat (first | exact (Kd.C_below HR230_1.out HB.out) | (with_reducible refine Kd.C_alloc ?_ _) | (with_reducible refine Kd.C_drewN ?_ _) | (with_reducible refine Kd.C_drew ?_))); (case side2 => exact HC230_1.out); rintro e w58 ⟨rfl, hb⟩; refine ⟨_, rfl, ?_⟩; have n0_ := Aside0.mk (blk_below (g := gb231) (o := .cells #[.string ((rd_T29 l2 x9_1).f0), .slice A230_1 ((rd_T29 l2 x9_1).f1).length c230_1, .int .i64 ((rd_T29 l2 x9_1).f2)] 29 (0, 0)) (by (with_reducible repeat (first | refine blk_drewN ?_ _ | refine blk_drew ?_ | refine blk_alloc ?_ _)); exact BK231.out) hb); have n1_ := Aside0.mk (below_step (by repeat (first | (with_reducible first | exact HB.out | apply below_alloc | apply pw_below_drewN | apply below_drew1 | refine below_set ?_ GE231.out) | exact HB.out)) hb); clear BK231; clear HB; have BK231 := n0_; have HB := n1_; clear n0_ n1_; (try clear hb); (try clear hb2); (try clear hk); (try clear hi)))
                                    go_ret
                                    exact ⟨by first | rfl | (simp [errW_none, errW_some] <;> rfl) | (simp [*, errW_none, errW_some] <;> rfl), below_step HBZ.out (by repeat (first | (with_reducible first | exact HB.out | apply below_alloc | apply pw_below_drewN | apply below_drew1 | refine below_set ?_ GE231.out) | exact HB.out))⟩
                                · rw [if_neg c50] at H
                                  have c50b0 : (t241 == 0) = false := beq_eq_false_iff_ne.mpr c50
                                  have c50b1 : (t241 != 0) = true := bne_iff_ne.mpr c50
                                  obtain rfl := Option.some.inj H
                                  have hcz59_0 : wr.cell? ⟨gb231, 0, none⟩ = some (.string ((rd_T29 l2 x9_1).f0)) := (blk_cell BK231.out 0).trans rfl
                                  have hcz59_1 : wr.cell? ⟨gb231, 1, none⟩ = some (.slice A230_1 ((rd_T29 l2 x9_1).f1).length c230_1) := (blk_cell BK231.out 1).trans rfl
                                  have hcz59_2 : wr.cell? ⟨gb231, 2, none⟩ = some (.int .i64 ((rd_T29 l2 x9_1).f2)) := (blk_cell BK231.out 2).trans rfl
                                  have hfz59_0 := blk_frozen BK231.out 0
                                  have hfz59_1 := blk_frozen BK231.out 1
                                  have hfz59_2 := blk_frozen BK231.out 2
                                  go_wp2_with (first | ((with_reducible refine gate_callee (f := 15) rfl ?_); refine goesL_ (some 147) rfl rfl Try.func15 (by kernel_rfl) rfl #[.agg #[.string ((rd_T29 l2 x9_1).f0), .slice A230_1 ((rd_T29 l2 x9_1).f1).length c230_1, .int .i64 ((rd_T29 l2 x9_1).f2)]] rfl (by (try simp only [List.map_toArray, List.map_cons, List.map_nil]); first | done | rfl | (simp only [List.length_drop, List.length_take]; rfl)) ?_; (with_reducible refine (impl_LongestStreak.calls k3 ((rd_T29 l2 x9_1).f0) _ _ ((rd_T29 l2 x9_1).f1) ((rd_T29 l2 x9_1).f2) t239 t240 t241 _ ?side1 ?side2 A45.out).mono ?_); (case side1 => repeat (first | exact (Kd.C_below HR230_1.out HB.out) | (with_reducible refine Kd.C_alloc ?_ _) | (with_reducible refine Kd.C_drewN ?_ _) | (with_reducible refine Kd.C_drew ?_))); (case side2 => exact HC230_1.out); rintro e w60 ⟨rfl, hb⟩; refine ⟨_, rfl, ?_⟩; have n0_ := Aside0.mk (blk_below (g := gb231) (o := .cells #[.string ((rd_T29 l2 x9_1).f0), .slice A230_1 ((rd_T29 l2 x9_1).f1).length c230_1, .int .i64 ((rd_T29 l2 x9_1).f2)] 29 (0, 0)) (by (with_reducible repeat (first | refine blk_drewN ?_ _ | refine blk_drew ?_ | refine blk_alloc ?_ _)); exact BK231.out) hb); have n1_ := Aside0.mk (below_step (by repeat (first | (with_reducible first | exact HB.out | apply below_alloc | apply pw_below_drewN | apply below_drew1 | refine below_set ?_ GE231.out) | exact HB.out)) hb); clear BK231; clear HB; have BK231 := n0_; have HB := n1_; clear n0_ n1_; (try clear hb); (try clear hb2); (try clear hk); (try clear hi)))
                                  go_ret
                                  exact ⟨by first | rfl | (simp [errW_none, errW_some] <;> rfl) | (simp [*, errW_none, errW_some] <;> rfl), below_step HBZ.out (by repeat (first | (with_reducible first | exact HB.out | apply below_alloc | apply pw_below_drewN | apply below_drew1 | refine below_set ?_ GE231.out) | exact HB.out))⟩
                              · rw [if_neg c49] at H
                                have c49b0 : decide (0 < x19_3) = false := decide_eq_false c49
                                clear c49
                                have H' := Aside0.mk H
                                clear H
                                have hcz61_0 : wr.cell? ⟨gb231, 0, none⟩ = some (.string ((rd_T29 l2 x9_1).f0)) := (blk_cell BK231.out 0).trans rfl
                                have hcz61_1 : wr.cell? ⟨gb231, 1, none⟩ = some (.slice A230_1 ((rd_T29 l2 x9_1).f1).length c230_1) := (blk_cell BK231.out 1).trans rfl
                                have hcz61_2 : wr.cell? ⟨gb231, 2, none⟩ = some (.int .i64 ((rd_T29 l2 x9_1).f2)) := (blk_cell BK231.out 2).trans rfl
                                have hfz61_0 := blk_frozen BK231.out 0
                                have hfz61_1 := blk_frozen BK231.out 1
                                have hfz61_2 := blk_frozen BK231.out 2
                                go_wp2_with (first | ((with_reducible refine gate_callee (f := 15) rfl ?_); refine goesL_ (some 147) rfl rfl Try.func15 (by kernel_rfl) rfl #[.agg #[.string ((rd_T29 l2 x9_1).f0), .slice A230_1 ((rd_T29 l2 x9_1).f1).length c230_1, .int .i64 ((rd_T29 l2 x9_1).f2)]] rfl (by (try simp only [List.map_toArray, List.map_cons, List.map_nil]); first | done | rfl | (simp only [List.length_drop, List.length_take]; rfl)) ?_; (with_reducible refine (impl_LongestStreak.calls k3 ((rd_T29 l2 x9_1).f0) _ _ ((rd_T29 l2 x9_1).f1) ((rd_T29 l2 x9_1).f2) t239 t240 t241 _ ?side1 ?side2 A45.out).mono ?_); (case side1 => repeat (first | exact (Kd.C_below HR230_1.out HB.out) | (with_reducible refine Kd.C_alloc ?_ _) | (with_reducible refine Kd.C_drewN ?_ _) | (with_reducible refine Kd.C_drew ?_))); (case side2 => exact HC230_1.out); rintro e w62 ⟨rfl, hb⟩; refine ⟨_, rfl, ?_⟩; have n0_ := Aside0.mk (blk_below (g := gb231) (o := .cells #[.string ((rd_T29 l2 x9_1).f0), .slice A230_1 ((rd_T29 l2 x9_1).f1).length c230_1, .int .i64 ((rd_T29 l2 x9_1).f2)] 29 (0, 0)) (by (with_reducible repeat (first | refine blk_drewN ?_ _ | refine blk_drew ?_ | refine blk_alloc ?_ _)); exact BK231.out) hb); have n1_ := Aside0.mk (below_step (by repeat (first | (with_reducible first | exact HB.out | apply below_alloc | apply pw_below_drewN | apply below_drew1 | refine below_set ?_ GE231.out) | exact HB.out)) hb); clear BK231; clear HB; have BK231 := n0_; have HB := n1_; clear n0_ n1_; (try clear hb); (try clear hb2); (try clear hk); (try clear hi)))
                                go_roundg k3
                                case measure => have := HK1.out; have := HJ12.out; have := HK3.out; omega
                                case rel => exact ⟨((wrap64 (x8_1 + t232))), (wrap64 (x9_1 + 1)), (by first | rfl | (simp; done) | (simp [*]; done)), (by first | rfl | (simp; done) | (simp [*]; done)), H', ⟨by have := HK1.out; have := HJ12.out; have := HK3.out; omega⟩, ⟨by repeat (first | (with_reducible first | exact HB.out | apply below_alloc | apply pw_below_drewN | apply below_drew1 | refine below_set ?_ GE231.out) | exact HB.out)⟩⟩
                            · rw [if_neg c48] at H
                              have c48b0 : (t241 == 3) = false := beq_eq_false_iff_ne.mpr c48
                              have c48b1 : (t241 != 3) = true := bne_iff_ne.mpr c48
                              obtain rfl := Option.some.inj H
                              have hcz63_0 : wr.cell? ⟨gb231, 0, none⟩ = some (.string ((rd_T29 l2 x9_1).f0)) := (blk_cell BK231.out 0).trans rfl
                              have hcz63_1 : wr.cell? ⟨gb231, 1, none⟩ = some (.slice A230_1 ((rd_T29 l2 x9_1).f1).length c230_1) := (blk_cell BK231.out 1).trans rfl
                              have hcz63_2 : wr.cell? ⟨gb231, 2, none⟩ = some (.int .i64 ((rd_T29 l2 x9_1).f2)) := (blk_cell BK231.out 2).trans rfl
                              have hfz63_0 := blk_frozen BK231.out 0
                              have hfz63_1 := blk_frozen BK231.out 1
                              have hfz63_2 := blk_frozen BK231.out 2
                              go_wp2_with (first | ((with_reducible refine gate_callee (f := 15) rfl ?_); refine goesL_ (some 147) rfl rfl Try.func15 (by kernel_rfl) rfl #[.agg #[.string ((rd_T29 l2 x9_1).f0), .slice A230_1 ((rd_T29 l2 x9_1).f1).length c230_1, .int .i64 ((rd_T29 l2 x9_1).f2)]] rfl (by (try simp only [List.map_toArray, List.map_cons, List.map_nil]); first | done | rfl | (simp only [List.length_drop, List.length_take]; rfl)) ?_; (with_reducible refine (impl_LongestStreak.calls k3 ((rd_T29 l2 x9_1).f0) _ _ ((rd_T29 l2 x9_1).f1) ((rd_T29 l2 x9_1).f2) t239 t240 t241 _ ?side1 ?side2 A45.out).mono ?_); (case side1 => repeat (first | exact (Kd.C_below HR230_1.out HB.out) | (with_reducible refine Kd.C_alloc ?_ _) | (with_reducible refine Kd.C_drewN ?_ _) | (with_reducible refine Kd.C_drew ?_))); (case side2 => exact HC230_1.out); rintro e w64 ⟨rfl, hb⟩; refine ⟨_, rfl, ?_⟩; have n0_ := Aside0.mk (blk_below (g := gb231) (o := .cells #[.string ((rd_T29 l2 x9_1).f0), .slice A230_1 ((rd_T29 l2 x9_1).f1).length c230_1, .int .i64 ((rd_T29 l2 x9_1).f2)] 29 (0, 0)) (by (with_reducible repeat (first | refine blk_drewN ?_ _ | refine blk_drew ?_ | refine blk_alloc ?_ _)); exact BK231.out) hb); have n1_ := Aside0.mk (below_step (by repeat (first | (with_reducible first | exact HB.out | apply below_alloc | apply pw_below_drewN | apply below_drew1 | refine below_set ?_ GE231.out) | exact HB.out)) hb); clear BK231; clear HB; have BK231 := n0_; have HB := n1_; clear n0_ n1_; (try clear hb); (try clear hb2); (try clear hk); (try clear hi)))
                              go_ret
                              exact ⟨by first | rfl | (simp [errW_none, errW_some] <;> rfl) | (simp [*, errW_none, errW_some] <;> rfl), below_step HBZ.out (by repeat (first | (with_reducible first | exact HB.out | apply below_alloc | apply pw_below_drewN | apply below_drew1 | refine below_set ?_ GE231.out) | exact HB.out))⟩
                          · rw [if_neg c47] at H
                            have c47b0 : (x19_3 == 0) = false := beq_eq_false_iff_ne.mpr c47
                            have c47b1 : (x19_3 != 0) = true := bne_iff_ne.mpr c47
                            by_cases c65 : x19_3 > 0
                            · rw [if_pos c65] at H
                              have c65b0 : decide (0 < x19_3) = true := decide_eq_true c65
                              clear c65
                              by_cases c66 : t241 = 0
                              · rw [if_pos c66] at H
                                have c66b0 : (t241 == 0) = true := beq_iff_eq.mpr c66
                                have c66b1 : (t241 != 0) = false := bne_eq_false_iff_eq.mpr c66
                                clear c66
                                by_cases c67 : t239 = x20_3
                                · rw [if_pos c67] at H
                                  have c67b0 : (t239 == x20_3) = true := beq_iff_eq.mpr c67
                                  have c67b1 : (t239 != x20_3) = false := bne_eq_false_iff_eq.mpr c67
                                  clear c67
                                  by_cases c68 : t240 = x19_3
                                  · rw [if_pos c68] at H
                                    have c68b0 : (t240 == x19_3) = true := beq_iff_eq.mpr c68
                                    have c68b1 : (t240 != x19_3) = false := bne_eq_false_iff_eq.mpr c68
                                    clear c68
                                    have H' := Aside0.mk H
                                    clear H
                                    have hcz69_0 : wr.cell? ⟨gb231, 0, none⟩ = some (.string ((rd_T29 l2 x9_1).f0)) := (blk_cell BK231.out 0).trans rfl
                                    have hcz69_1 : wr.cell? ⟨gb231, 1, none⟩ = some (.slice A230_1 ((rd_T29 l2 x9_1).f1).length c230_1) := (blk_cell BK231.out 1).trans rfl
                                    have hcz69_2 : wr.cell? ⟨gb231, 2, none⟩ = some (.int .i64 ((rd_T29 l2 x9_1).f2)) := (blk_cell BK231.out 2).trans rfl
                                    have hfz69_0 := blk_frozen BK231.out 0
                                    have hfz69_1 := blk_frozen BK231.out 1
                                    have hfz69_2 := blk_frozen BK231.out 2
                                    go_wp2_with (first | ((with_reducible refine gate_callee (f := 15) rfl ?_); refine goesL_ (some 147) rfl rfl Try.func15 (by kernel_rfl) rfl #[.agg #[.string ((rd_T29 l2 x9_1).f0), .slice A230_1 ((rd_T29 l2 x9_1).f1).length c230_1, .int .i64 ((rd_T29 l2 x9_1).f2)]] rfl (by (try simp only [List.map_toArray, List.map_cons, List.map_nil]); first | done | rfl | (simp only [List.length_drop, List.length_take]; rfl)) ?_; (with_reducible refine (impl_LongestStreak.calls k3 ((rd_T29 l2 x9_1).f0) _ _ ((rd_T29 l2 x9_1).f1) ((rd_T29 l2 x9_1).f2) t239 t240 t241 _ ?side1 ?side2 A45.out).mono ?_); (case side1 => repeat (first | exact (Kd.C_below HR230_1.out HB.out) | (with_reducible refine Kd.C_alloc ?_ _) | (with_reducible refine Kd.C_drewN ?_ _) | (with_reducible refine Kd.C_drew ?_))); (case side2 => exact HC230_1.out); rintro e w70 ⟨rfl, hb⟩; refine ⟨_, rfl, ?_⟩; have n0_ := Aside0.mk (blk_below (g := gb231) (o := .cells #[.string ((rd_T29 l2 x9_1).f0), .slice A230_1 ((rd_T29 l2 x9_1).f1).length c230_1, .int .i64 ((rd_T29 l2 x9_1).f2)] 29 (0, 0)) (by (with_reducible repeat (first | refine blk_drewN ?_ _ | refine blk_drew ?_ | refine blk_alloc ?_ _)); exact BK231.out) hb); have n1_ := Aside0.mk (below_step (by repeat (first | (with_reducible first | exact HB.out | apply below_alloc | apply pw_below_drewN | apply below_drew1 | refine below_set ?_ GE231.out) | exact HB.out)) hb); clear BK231; clear HB; have BK231 := n0_; have HB := n1_; clear n0_ n1_; (try clear hb); (try clear hb2); (try clear hk); (try clear hi)))
                                    go_roundg k3
                                    case measure => have := HK1.out; have := HJ12.out; have := HK3.out; omega
                                    case rel => exact ⟨((wrap64 (x8_1 + t232))), (wrap64 (x9_1 + 1)), (by first | rfl | (simp; done) | (simp [*]; done)), (by first | rfl | (simp; done) | (simp [*]; done)), H', ⟨by have := HK1.out; have := HJ12.out; have := HK3.out; omega⟩, ⟨by repeat (first | (with_reducible first | exact HB.out | apply below_alloc | apply pw_below_drewN | apply below_drew1 | refine below_set ?_ GE231.out) | exact HB.out)⟩⟩
                                  · rw [if_neg c68] at H
                                    have c68b0 : (t240 == x19_3) = false := beq_eq_false_iff_ne.mpr c68
                                    have c68b1 : (t240 != x19_3) = true := bne_iff_ne.mpr c68
                                    obtain rfl := Option.some.inj H
                                    have hcz71_0 : wr.cell? ⟨gb231, 0, none⟩ = some (.string ((rd_T29 l2 x9_1).f0)) := (blk_cell BK231.out 0).trans rfl
                                    have hcz71_1 : wr.cell? ⟨gb231, 1, none⟩ = some (.slice A230_1 ((rd_T29 l2 x9_1).f1).length c230_1) := (blk_cell BK231.out 1).trans rfl
                                    have hcz71_2 : wr.cell? ⟨gb231, 2, none⟩ = some (.int .i64 ((rd_T29 l2 x9_1).f2)) := (blk_cell BK231.out 2).trans rfl
                                    have hfz71_0 := blk_frozen BK231.out 0
                                    have hfz71_1 := blk_frozen BK231.out 1
                                    have hfz71_2 := blk_frozen BK231.out 2
                                    go_wp2_with (first | ((with_reducible refine gate_callee (f := 15) rfl ?_); refine goesL_ (some 147) rfl rfl Try.func15 (by kernel_rfl) rfl #[.agg #[.string ((rd_T29 l2 x9_1).f0), .slice A230_1 ((rd_T29 l2 x9_1).f1).length c230_1, .int .i64 ((rd_T29 l2 x9_1).f2)]] rfl (by (try simp only [List.map_toArray, List.map_cons, List.map_nil]); first | done | rfl | (simp only [List.length_drop, List.length_take]; rfl)) ?_; (with_reducible refine (impl_LongestStreak.calls k3 ((rd_T29 l2 x9_1).f0) _ _ ((rd_T29 l2 x9_1).f1) ((rd_T29 l2 x9_1).f2) t239 t240 t241 _ ?side1 ?side2 A45.out).mono ?_); (case side1 => repeat (first | exact (Kd.C_below HR230_1.out HB.out) | (with_reducible refine Kd.C_alloc ?_ _) | (with_reducible refine Kd.C_drewN ?_ _) | (with_reducible refine Kd.C_drew ?_))); (case side2 => exact HC230_1.out); rintro e w72 ⟨rfl, hb⟩; refine ⟨_, rfl, ?_⟩; have n0_ := Aside0.mk (blk_below (g := gb231) (o := .cells #[.string ((rd_T29 l2 x9_1).f0), .slice A230_1 ((rd_T29 l2 x9_1).f1).length c230_1, .int .i64 ((rd_T29 l2 x9_1).f2)] 29 (0, 0)) (by (with_reducible repeat (first | refine blk_drewN ?_ _ | refine blk_drew ?_ | refine blk_alloc ?_ _)); exact BK231.out) hb); have n1_ := Aside0.mk (below_step (by repeat (first | (with_reducible first | exact HB.out | apply below_alloc | apply pw_below_drewN | apply below_drew1 | refine below_set ?_ GE231.out) | exact HB.out)) hb); clear BK231; clear HB; have BK231 := n0_; have HB := n1_; clear n0_ n1_; (try clear hb); (try clear hb2); (try clear hk); (try clear hi)))
                                    go_ret
                                    exact ⟨by first | rfl | (simp [errW_none, errW_some] <;> rfl) | (simp [*, errW_none, errW_some] <;> rfl), below_step HBZ.out (by repeat (first | (with_reducible first | exact HB.out | apply below_alloc | apply pw_below_drewN | apply below_drew1 | refine below_set ?_ GE231.out) | exact HB.out))⟩
                                · rw [if_neg c67] at H
                                  have c67b0 : (t239 == x20_3) = false := beq_eq_false_iff_ne.mpr c67
                                  have c67b1 : (t239 != x20_3) = true := bne_iff_ne.mpr c67
                                  obtain rfl := Option.some.inj H
                                  have hcz73_0 : wr.cell? ⟨gb231, 0, none⟩ = some (.string ((rd_T29 l2 x9_1).f0)) := (blk_cell BK231.out 0).trans rfl
                                  have hcz73_1 : wr.cell? ⟨gb231, 1, none⟩ = some (.slice A230_1 ((rd_T29 l2 x9_1).f1).length c230_1) := (blk_cell BK231.out 1).trans rfl
                                  have hcz73_2 : wr.cell? ⟨gb231, 2, none⟩ = some (.int .i64 ((rd_T29 l2 x9_1).f2)) := (blk_cell BK231.out 2).trans rfl
                                  have hfz73_0 := blk_frozen BK231.out 0
                                  have hfz73_1 := blk_frozen BK231.out 1
                                  have hfz73_2 := blk_frozen BK231.out 2
                                  go_wp2_with (first | ((with_reducible refine gate_callee (f := 15) rfl ?_); refine goesL_ (some 147) rfl rfl Try.func15 (by kernel_rfl) rfl #[.agg #[.string ((rd_T29 l2 x9_1).f0), .slice A230_1 ((rd_T29 l2 x9_1).f1).length c230_1, .int .i64 ((rd_T29 l2 x9_1).f2)]] rfl (by (try simp only [List.map_toArray, List.map_cons, List.map_nil]); first | done | rfl | (simp only [List.length_drop, List.length_take]; rfl)) ?_; (with_reducible refine (impl_LongestStreak.calls k3 ((rd_T29 l2 x9_1).f0) _ _ ((rd_T29 l2 x9_1).f1) ((rd_T29 l2 x9_1).f2) t239 t240 t241 _ ?side1 ?side2 A45.out).mono ?_); (case side1 => repeat (first | exact (Kd.C_below HR230_1.out HB.out) | (with_reducible refine Kd.C_alloc ?_ _) | (with_reducible refine Kd.C_drewN ?_ _) | (with_reducible refine Kd.C_drew ?_))); (case side2 => exact HC230_1.out); rintro e w74 ⟨rfl, hb⟩; refine ⟨_, rfl, ?_⟩; have n0_ := Aside0.mk (blk_below (g := gb231) (o := .cells #[.string ((rd_T29 l2 x9_1).f0), .slice A230_1 ((rd_T29 l2 x9_1).f1).length c230_1, .int .i64 ((rd_T29 l2 x9_1).f2)] 29 (0, 0)) (by (with_reducible repeat (first | refine blk_drewN ?_ _ | refine blk_drew ?_ | refine blk_alloc ?_ _)); exact BK231.out) hb); have n1_ := Aside0.mk (below_step (by repeat (first | (with_reducible first | exact HB.out | apply below_alloc | apply pw_below_drewN | apply below_drew1 | refine below_set ?_ GE231.out) | exact HB.out)) hb); clear BK231; clear HB; have BK231 := n0_; have HB := n1_; clear n0_ n1_; (try clear hb); (try clear hb2); (try clear hk); (try clear hi)))
                                  go_ret
                                  exact ⟨by first | rfl | (simp [errW_none, errW_some] <;> rfl) | (simp [*, errW_none, errW_some] <;> rfl), below_step HBZ.out (by repeat (first | (with_reducible first | exact HB.out | apply below_alloc | apply pw_below_drewN | apply below_drew1 | refine below_set ?_ GE231.out) | exact HB.out))⟩
                              · rw [if_neg c66] at H
                                have c66b0 : (t241 == 0) = false := beq_eq_false_iff_ne.mpr c66
                                have c66b1 : (t241 != 0) = true := bne_iff_ne.mpr c66
                                obtain rfl := Option.some.inj H
                                have hcz75_0 : wr.cell? ⟨gb231, 0, none⟩ = some (.string ((rd_T29 l2 x9_1).f0)) := (blk_cell BK231.out 0).trans rfl
                                have hcz75_1 : wr.cell? ⟨gb231, 1, none⟩ = some (.slice A230_1 ((rd_T29 l2 x9_1).f1).length c230_1) := (blk_cell BK231.out 1).trans rfl
                                have hcz75_2 : wr.cell? ⟨gb231, 2, none⟩ = some (.int .i64 ((rd_T29 l2 x9_1).f2)) := (blk_cell BK231.out 2).trans rfl
                                have hfz75_0 := blk_frozen BK231.out 0
                                have hfz75_1 := blk_frozen BK231.out 1
                                have hfz75_2 := blk_frozen BK231.out 2
                                go_wp2_with (first | ((with_reducible refine gate_callee (f := 15) rfl ?_); refine goesL_ (some 147) rfl rfl Try.func15 (by kernel_rfl) rfl #[.agg #[.string ((rd_T29 l2 x9_1).f0), .slice A230_1 ((rd_T29 l2 x9_1).f1).length c230_1, .int .i64 ((rd_T29 l2 x9_1).f2)]] rfl (by (try simp only [List.map_toArray, List.map_cons, List.map_nil]); first | done | rfl | (simp only [List.length_drop, List.length_take]; rfl)) ?_; (with_reducible refine (impl_LongestStreak.calls k3 ((rd_T29 l2 x9_1).f0) _ _ ((rd_T29 l2 x9_1).f1) ((rd_T29 l2 x9_1).f2) t239 t240 t241 _ ?side1 ?side2 A45.out).mono ?_); (case side1 => repeat (first | exact (Kd.C_below HR230_1.out HB.out) | (with_reducible refine Kd.C_alloc ?_ _) | (with_reducible refine Kd.C_drewN ?_ _) | (with_reducible refine Kd.C_drew ?_))); (case side2 => exact HC230_1.out); rintro e w76 ⟨rfl, hb⟩; refine ⟨_, rfl, ?_⟩; have n0_ := Aside0.mk (blk_below (g := gb231) (o := .cells #[.string ((rd_T29 l2 x9_1).f0), .slice A230_1 ((rd_T29 l2 x9_1).f1).length c230_1, .int .i64 ((rd_T29 l2 x9_1).f2)] 29 (0, 0)) (by (with_reducible repeat (first | refine blk_drewN ?_ _ | refine blk_drew ?_ | refine blk_alloc ?_ _)); exact BK231.out) hb); have n1_ := Aside0.mk (below_step (by repeat (first | (with_reducible first | exact HB.out | apply below_alloc | apply pw_below_drewN | apply below_drew1 | refine below_set ?_ GE231.out) | exact HB.out)) hb); clear BK231; clear HB; have BK231 := n0_; have HB := n1_; clear n0_ n1_; (try clear hb); (try clear hb2); (try clear hk); (try clear hi)))
                                go_ret
                                exact ⟨by first | rfl | (simp [errW_none, errW_some] <;> rfl) | (simp [*, errW_none, errW_some] <;> rfl), below_step HBZ.out (by repeat (first | (with_reducible first | exact HB.out | apply below_alloc | apply pw_below_drewN | apply below_drew1 | refine below_set ?_ GE231.out) | exact HB.out))⟩
                            · rw [if_neg c65] at H
                              have c65b0 : decide (0 < x19_3) = false := decide_eq_false c65
                              clear c65
                              have H' := Aside0.mk H
                              clear H
                              have hcz77_0 : wr.cell? ⟨gb231, 0, none⟩ = some (.string ((rd_T29 l2 x9_1).f0)) := (blk_cell BK231.out 0).trans rfl
                              have hcz77_1 : wr.cell? ⟨gb231, 1, none⟩ = some (.slice A230_1 ((rd_T29 l2 x9_1).f1).length c230_1) := (blk_cell BK231.out 1).trans rfl
                              have hcz77_2 : wr.cell? ⟨gb231, 2, none⟩ = some (.int .i64 ((rd_T29 l2 x9_1).f2)) := (blk_cell BK231.out 2).trans rfl
                              have hfz77_0 := blk_frozen BK231.out 0
                              have hfz77_1 := blk_frozen BK231.out 1
                              have hfz77_2 := blk_frozen BK231.out 2
                              go_wp2_with (first | ((with_reducible refine gate_callee (f := 15) rfl ?_); refine goesL_ (some 147) rfl rfl Try.func15 (by kernel_rfl) rfl #[.agg #[.string ((rd_T29 l2 x9_1).f0), .slice A230_1 ((rd_T29 l2 x9_1).f1).length c230_1, .int .i64 ((rd_T29 l2 x9_1).f2)]] rfl (by (try simp only [List.map_toArray, List.map_cons, List.map_nil]); first | done | rfl | (simp only [List.length_drop, List.length_take]; rfl)) ?_; (with_reducible refine (impl_LongestStreak.calls k3 ((rd_T29 l2 x9_1).f0) _ _ ((rd_T29 l2 x9_1).f1) ((rd_T29 l2 x9_1).f2) t239 t240 t241 _ ?side1 ?side2 A45.out).mono ?_); (case side1 => repeat (first | exact (Kd.C_below HR230_1.out HB.out) | (with_reducible refine Kd.C_alloc ?_ _) | (with_reducible refine Kd.C_drewN ?_ _) | (with_reducible refine Kd.C_drew ?_))); (case side2 => exact HC230_1.out); rintro e w78 ⟨rfl, hb⟩; refine ⟨_, rfl, ?_⟩; have n0_ := Aside0.mk (blk_below (g := gb231) (o := .cells #[.string ((rd_T29 l2 x9_1).f0), .slice A230_1 ((rd_T29 l2 x9_1).f1).length c230_1, .int .i64 ((rd_T29 l2 x9_1).f2)] 29 (0, 0)) (by (with_reducible repeat (first | refine blk_drewN ?_ _ | refine blk_drew ?_ | refine blk_alloc ?_ _)); exact BK231.out) hb); have n1_ := Aside0.mk (below_step (by repeat (first | (with_reducible first | exact HB.out | apply below_alloc | apply pw_below_drewN | apply below_drew1 | refine below_set ?_ GE231.out) | exact HB.out)) hb); clear BK231; clear HB; have BK231 := n0_; have HB := n1_; clear n0_ n1_; (try clear hb); (try clear hb2); (try clear hk); (try clear hi)))
                              go_roundg k3
                              case measure => have := HK1.out; have := HJ12.out; have := HK3.out; omega
                              case rel => exact ⟨((wrap64 (x8_1 + t232))), (wrap64 (x9_1 + 1)), (by first | rfl | (simp; done) | (simp [*]; done)), (by first | rfl | (simp; done) | (simp [*]; done)), H', ⟨by have := HK1.out; have := HJ12.out; have := HK3.out; omega⟩, ⟨by repeat (first | (with_reducible first | exact HB.out | apply below_alloc | apply pw_below_drewN | apply below_drew1 | refine below_set ?_ GE231.out) | exact HB.out)⟩⟩
                        · rw [if_neg c46] at H
                          have c46b0 : (t234 == x17_3) = false := beq_eq_false_iff_ne.mpr c46
                          have c46b1 : (t234 != x17_3) = true := bne_iff_ne.mpr c46
                          obtain rfl := Option.some.inj H
                          have hcz79_0 : wr.cell? ⟨gb231, 0, none⟩ = some (.string ((rd_T29 l2 x9_1).f0)) := (blk_cell BK231.out 0).trans rfl
                          have hcz79_1 : wr.cell? ⟨gb231, 1, none⟩ = some (.slice A230_1 ((rd_T29 l2 x9_1).f1).length c230_1) := (blk_cell BK231.out 1).trans rfl
                          have hcz79_2 : wr.cell? ⟨gb231, 2, none⟩ = some (.int .i64 ((rd_T29 l2 x9_1).f2)) := (blk_cell BK231.out 2).trans rfl
                          have hfz79_0 := blk_frozen BK231.out 0
                          have hfz79_1 := blk_frozen BK231.out 1
                          have hfz79_2 := blk_frozen BK231.out 2
                          go_wp2_with (first | ((with_reducible refine gate_callee (f := 15) rfl ?_); refine goesL_ (some 147) rfl rfl Try.func15 (by kernel_rfl) rfl #[.agg #[.string ((rd_T29 l2 x9_1).f0), .slice A230_1 ((rd_T29 l2 x9_1).f1).length c230_1, .int .i64 ((rd_T29 l2 x9_1).f2)]] rfl (by (try simp only [List.map_toArray, List.map_cons, List.map_nil]); first | done | rfl | (simp only [List.length_drop, List.length_take]; rfl)) ?_; (with_reducible refine (impl_LongestStreak.calls k3 ((rd_T29 l2 x9_1).f0) _ _ ((rd_T29 l2 x9_1).f1) ((rd_T29 l2 x9_1).f2) t239 t240 t241 _ ?side1 ?side2 A45.out).mono ?_); (case side1 => repeat (first | exact (Kd.C_below HR230_1.out HB.out) | (with_reducible refine Kd.C_alloc ?_ _) | (with_reducible refine Kd.C_drewN ?_ _) | (with_reducible refine Kd.C_drew ?_))); (case side2 => exact HC230_1.out); rintro e w80 ⟨rfl, hb⟩; refine ⟨_, rfl, ?_⟩; have n0_ := Aside0.mk (blk_below (g := gb231) (o := .cells #[.string ((rd_T29 l2 x9_1).f0), .slice A230_1 ((rd_T29 l2 x9_1).f1).length c230_1, .int .i64 ((rd_T29 l2 x9_1).f2)] 29 (0, 0)) (by (with_reducible repeat (first | refine blk_drewN ?_ _ | refine blk_drew ?_ | refine blk_alloc ?_ _)); exact BK231.out) hb); have n1_ := Aside0.mk (below_step (by repeat (first | (with_reducible first | exact HB.out | apply below_alloc | apply pw_below_drewN | apply below_drew1 | refine below_set ?_ GE231.out) | exact HB.out)) hb); clear BK231; clear HB; have BK231 := n0_; have HB := n1_; clear n0_ n1_; (try clear hb); (try clear hb2); (try clear hk); (try clear hi)))
                          go_ret
                          exact ⟨by first | rfl | (simp [errW_none, errW_some] <;> rfl) | (simp [*, errW_none, errW_some] <;> rfl), below_step HBZ.out (by repeat (first | (with_reducible first | exact HB.out | apply below_alloc | apply pw_below_drewN | apply below_drew1 | refine below_set ?_ GE231.out) | exact HB.out))⟩
          · rw [if_neg c9] at H
            exact absurd H (by simp)
        · rw [if_neg c8] at H
          have c8b0 : decide (x9_1 < (l2.length : Int)) = false := decide_eq_false c8
          clear c8
          replace H := Option.bind_eq_some_iff.mp H
          obtain ⟨t244, A810, H⟩ := H
          replace H : ((impl_ShareByHours.f k1 l2 (wrap64 (t244 * 13))).bind fun bt245 => (if x8_1 = 0 then (some (bt245.2 == 6)) else (if bt245.2 = 0 then (if (bt245.1.length : Int) = (l2.length : Int) then ((laws_a2Sum.f k1 bt245.1).bind fun t249 => (some (t249 == (wrap64 (t244 * 13))))) else (some false)) else (some false)))) = some r := H
          have A81 := Aside0.mk A810
          clear A810
          replace H := Option.bind_eq_some_iff.mp H
          obtain ⟨⟨t245, t246⟩, A820, H⟩ := H
          replace H : (if x8_1 = 0 then (some (t246 == 6)) else (if t246 = 0 then (if (t245.length : Int) = (l2.length : Int) then ((laws_a2Sum.f k1 t245).bind fun t249 => (some (t249 == (wrap64 (t244 * 13))))) else (some false)) else (some false))) = some r := H
          have A82 := Aside0.mk A820
          clear A820
          by_cases c83 : x8_1 = 0
          · rw [if_pos c83] at H
            have c83b0 : (x8_1 == 0) = true := beq_iff_eq.mpr c83
            have c83b1 : (x8_1 != 0) = false := bne_eq_false_iff_eq.mpr c83
            clear c83
            obtain rfl := Option.some.inj H
            go_wp2_with (first | ((with_reducible refine gate_callee (f := 10) rfl ?_); refine goesL_ (some 181) rfl rfl Try.func10 (by kernel_rfl) rfl #[.slice A1 l1.length c1, .int .i64 2, .int .i64 250] rfl (by (try simp only [List.map_toArray, List.map_cons, List.map_nil]); first | done | rfl | (simp only [List.length_drop, List.length_take]; rfl)) ?_; (with_reducible refine (laws_a2At.calls _ _ l1 2 250 t244 _ ?side1 ?side2 A81.out).mono ?_); (case side1 => repeat (first | exact (Kd.C_below HR1.out HB.out) | (with_reducible refine Kd.C_alloc ?_ _) | (with_reducible refine Kd.C_drewN ?_ _) | (with_reducible refine Kd.C_drew ?_))); (case side2 => exact HC1.out); rintro e w' ⟨rfl, ⟨nd, rfl⟩⟩; refine ⟨_, rfl, ?_⟩) | ((with_reducible refine gate_callee (f := 16) rfl ?_); refine goesL_ (some 186) rfl rfl Try.func16 (by kernel_rfl) rfl #[.slice A2 l2.length c2, .int .i64 (wrap64 (t244 * 13))] rfl (by (try simp only [List.map_toArray, List.map_cons, List.map_nil]); first | done | rfl | (simp only [List.length_drop, List.length_take]; rfl)) ?_; (with_reducible refine (impl_ShareByHours.calls k1 _ _ l2 (wrap64 (t244 * 13)) t245 t246 _ ?side1 ?side2 A82.out).mono ?_); (case side1 => repeat (first | exact (Kd.C_below HR2.out (by repeat (first | (with_reducible first | exact HB.out | apply below_alloc | apply pw_below_drewN | apply below_drew1) | exact HB.out))) | (with_reducible refine Kd.C_alloc ?_ _) | (with_reducible refine Kd.C_drewN ?_ _) | (with_reducible refine Kd.C_drew ?_))); (case side2 => exact HC2.out); rintro e w84 ⟨v247, rfl, ho0, hb⟩; refine ⟨_, rfl, ?_⟩; have n0_ := Aside0.mk (Kd.R_lower ho0 (below_size (by repeat (first | (with_reducible first | exact HB.out | apply below_alloc | apply pw_below_drewN | apply below_drew1) | exact HB.out)))); have n1_ := Aside0.mk (below_step (by repeat (first | (with_reducible first | exact HB.out | apply below_alloc | apply pw_below_drewN | apply below_drew1) | exact HB.out)) hb); clear HB; have HO248 := n0_; have HB := n1_; clear n0_ n1_; (try clear hb); (try clear hb2); (try clear hk); (try clear hi); (try clear ho0)))
            go_ret
            exact ⟨by first | rfl | (simp [errW_none, errW_some] <;> rfl) | (simp [*, errW_none, errW_some] <;> rfl), below_step HBZ.out (by repeat (first | (with_reducible first | exact HB.out | apply below_alloc | apply pw_below_drewN | apply below_drew1) | exact HB.out))⟩
          · rw [if_neg c83] at H
            have c83b0 : (x8_1 == 0) = false := beq_eq_false_iff_ne.mpr c83
            have c83b1 : (x8_1 != 0) = true := bne_iff_ne.mpr c83
            by_cases c85 : t246 = 0
            · rw [if_pos c85] at H
              have c85b0 : (t246 == 0) = true := beq_iff_eq.mpr c85
              have c85b1 : (t246 != 0) = false := bne_eq_false_iff_eq.mpr c85
              clear c85
              by_cases c86 : (t245.length : Int) = (l2.length : Int)
              · rw [if_pos c86] at H
                have c86b0 : ((t245.length : Int) == (l2.length : Int)) = true := beq_iff_eq.mpr c86
                have c86b1 : ((t245.length : Int) != (l2.length : Int)) = false := bne_eq_false_iff_eq.mpr c86
                have c86b2 : (t245.length == l2.length) = true := by first | simpa using c86 | (simp at c86 ⊢; omega)
                clear c86
                replace H := Option.bind_eq_some_iff.mp H
                obtain ⟨t249, A870, H⟩ := H
                replace H : (some (t249 == (wrap64 (t244 * 13)))) = some r := H
                have A87 := Aside0.mk A870
                clear A870
                obtain rfl := Option.some.inj H
                go_wp2_with (first | ((with_reducible refine gate_callee (f := 10) rfl ?_); refine goesL_ (some 181) rfl rfl Try.func10 (by kernel_rfl) rfl #[.slice A1 l1.length c1, .int .i64 2, .int .i64 250] rfl (by (try simp only [List.map_toArray, List.map_cons, List.map_nil]); first | done | rfl | (simp only [List.length_drop, List.length_take]; rfl)) ?_; (with_reducible refine (laws_a2At.calls _ _ l1 2 250 t244 _ ?side1 ?side2 A81.out).mono ?_); (case side1 => repeat (first | exact (Kd.C_below HR1.out HB.out) | (with_reducible refine Kd.C_alloc ?_ _) | (with_reducible refine Kd.C_drewN ?_ _) | (with_reducible refine Kd.C_drew ?_))); (case side2 => exact HC1.out); rintro e w' ⟨rfl, ⟨nd, rfl⟩⟩; refine ⟨_, rfl, ?_⟩) | ((with_reducible refine gate_callee (f := 16) rfl ?_); refine goesL_ (some 186) rfl rfl Try.func16 (by kernel_rfl) rfl #[.slice A2 l2.length c2, .int .i64 (wrap64 (t244 * 13))] rfl (by (try simp only [List.map_toArray, List.map_cons, List.map_nil]); first | done | rfl | (simp only [List.length_drop, List.length_take]; rfl)) ?_; (with_reducible refine (impl_ShareByHours.calls k1 _ _ l2 (wrap64 (t244 * 13)) t245 t246 _ ?side1 ?side2 A82.out).mono ?_); (case side1 => repeat (first | exact (Kd.C_below HR2.out (by repeat (first | (with_reducible first | exact HB.out | apply below_alloc | apply pw_below_drewN | apply below_drew1) | exact HB.out))) | (with_reducible refine Kd.C_alloc ?_ _) | (with_reducible refine Kd.C_drewN ?_ _) | (with_reducible refine Kd.C_drew ?_))); (case side2 => exact HC2.out); rintro e w88 ⟨v247, rfl, ho0, hb⟩; refine ⟨_, rfl, ?_⟩; have n0_ := Aside0.mk (Kd.R_lower ho0 (below_size (by repeat (first | (with_reducible first | exact HB.out | apply below_alloc | apply pw_below_drewN | apply below_drew1) | exact HB.out)))); have n1_ := Aside0.mk (below_step (by repeat (first | (with_reducible first | exact HB.out | apply below_alloc | apply pw_below_drewN | apply below_drew1) | exact HB.out)) hb); clear HB; have HO248 := n0_; have HB := n1_; clear n0_ n1_; (try clear hb); (try clear hb2); (try clear hk); (try clear hi); (try clear ho0); obtain ⟨Ao89, co89, eo89⟩ := Kd.R_slice HO248.out; subst eo89) | (go_at_call 14; (with_reducible refine (laws_a2Sum.calls k1 _ _ t245 t249 _ ?side1 ?side2 A87.out).mono ?_); (case side1 => repeat (first | exact (Kd.R_reads' HO248.out).2.2 | (with_reducible refine Kd.C_alloc ?_ _) | (with_reducible refine Kd.C_drewN ?_ _) | (with_reducible refine Kd.C_drew ?_))); (case side2 => exact (Kd.R_reads' HO248.out).2.1); rintro e w' ⟨rfl, ⟨nd, rfl⟩⟩))
                go_ret
                exact ⟨by first | rfl | (simp [errW_none, errW_some] <;> rfl) | (simp [*, errW_none, errW_some] <;> rfl), below_step HBZ.out (by repeat (first | (with_reducible first | exact HB.out | apply below_alloc | apply pw_below_drewN | apply below_drew1) | exact HB.out))⟩
              · rw [if_neg c86] at H
                have c86b0 : ((t245.length : Int) == (l2.length : Int)) = false := beq_eq_false_iff_ne.mpr c86
                have c86b1 : ((t245.length : Int) != (l2.length : Int)) = true := bne_iff_ne.mpr c86
                have c86b2 : (t245.length == l2.length) = false := by first | simpa using c86 | (simp at c86 ⊢; omega)
                obtain rfl := Option.some.inj H
                go_wp2_with (first | ((with_reducible refine gate_callee (f := 10) rfl ?_); refine goesL_ (some 181) rfl rfl Try.func10 (by kernel_rfl) rfl #[.slice A1 l1.length c1, .int .i64 2, .int .i64 250] rfl (by (try simp only [List.map_toArray, List.map_cons, List.map_nil]); first | done | rfl | (simp only [List.length_drop, List.length_take]; rfl)) ?_; (with_reducible refine (laws_a2At.calls _ _ l1 2 250 t244 _ ?side1 ?side2 A81.out).mono ?_); (case side1 => repeat (first | exact (Kd.C_below HR1.out HB.out) | (with_reducible refine Kd.C_alloc ?_ _) | (with_reducible refine Kd.C_drewN ?_ _) | (with_reducible refine Kd.C_drew ?_))); (case side2 => exact HC1.out); rintro e w' ⟨rfl, ⟨nd, rfl⟩⟩; refine ⟨_, rfl, ?_⟩) | ((with_reducible refine gate_callee (f := 16) rfl ?_); refine goesL_ (some 186) rfl rfl Try.func16 (by kernel_rfl) rfl #[.slice A2 l2.length c2, .int .i64 (wrap64 (t244 * 13))] rfl (by (try simp only [List.map_toArray, List.map_cons, List.map_nil]); first | done | rfl | (simp only [List.length_drop, List.length_take]; rfl)) ?_; (with_reducible refine (impl_ShareByHours.calls k1 _ _ l2 (wrap64 (t244 * 13)) t245 t246 _ ?side1 ?side2 A82.out).mono ?_); (case side1 => repeat (first | exact (Kd.C_below HR2.out (by repeat (first | (with_reducible first | exact HB.out | apply below_alloc | apply pw_below_drewN | apply below_drew1) | exact HB.out))) | (with_reducible refine Kd.C_alloc ?_ _) | (with_reducible refine Kd.C_drewN ?_ _) | (with_reducible refine Kd.C_drew ?_))); (case side2 => exact HC2.out); rintro e w90 ⟨v247, rfl, ho0, hb⟩; refine ⟨_, rfl, ?_⟩; have n0_ := Aside0.mk (Kd.R_lower ho0 (below_size (by repeat (first | (with_reducible first | exact HB.out | apply below_alloc | apply pw_below_drewN | apply below_drew1) | exact HB.out)))); have n1_ := Aside0.mk (below_step (by repeat (first | (with_reducible first | exact HB.out | apply below_alloc | apply pw_below_drewN | apply below_drew1) | exact HB.out)) hb); clear HB; have HO248 := n0_; have HB := n1_; clear n0_ n1_; (try clear hb); (try clear hb2); (try clear hk); (try clear hi); (try clear ho0); obtain ⟨Ao91, co91, eo91⟩ := Kd.R_slice HO248.out; subst eo91))
                go_ret
                exact ⟨by first | rfl | (simp [errW_none, errW_some] <;> rfl) | (simp [*, errW_none, errW_some] <;> rfl), below_step HBZ.out (by repeat (first | (with_reducible first | exact HB.out | apply below_alloc | apply pw_below_drewN | apply below_drew1) | exact HB.out))⟩
            · rw [if_neg c85] at H
              have c85b0 : (t246 == 0) = false := beq_eq_false_iff_ne.mpr c85
              have c85b1 : (t246 != 0) = true := bne_iff_ne.mpr c85
              obtain rfl := Option.some.inj H
              go_wp2_with (first | ((with_reducible refine gate_callee (f := 10) rfl ?_); refine goesL_ (some 181) rfl rfl Try.func10 (by kernel_rfl) rfl #[.slice A1 l1.length c1, .int .i64 2, .int .i64 250] rfl (by (try simp only [List.map_toArray, List.map_cons, List.map_nil]); first | done | rfl | (simp only [List.length_drop, List.length_take]; rfl)) ?_; (with_reducible refine (laws_a2At.calls _ _ l1 2 250 t244 _ ?side1 ?side2 A81.out).mono ?_); (case side1 => repeat (first | exact (Kd.C_below HR1.out HB.out) | (with_reducible refine Kd.C_alloc ?_ _) | (with_reducible refine Kd.C_drewN ?_ _) | (with_reducible refine Kd.C_drew ?_))); (case side2 => exact HC1.out); rintro e w' ⟨rfl, ⟨nd, rfl⟩⟩; refine ⟨_, rfl, ?_⟩) | ((with_reducible refine gate_callee (f := 16) rfl ?_); refine goesL_ (some 186) rfl rfl Try.func16 (by kernel_rfl) rfl #[.slice A2 l2.length c2, .int .i64 (wrap64 (t244 * 13))] rfl (by (try simp only [List.map_toArray, List.map_cons, List.map_nil]); first | done | rfl | (simp only [List.length_drop, List.length_take]; rfl)) ?_; (with_reducible refine (impl_ShareByHours.calls k1 _ _ l2 (wrap64 (t244 * 13)) t245 t246 _ ?side1 ?side2 A82.out).mono ?_); (case side1 => repeat (first | exact (Kd.C_below HR2.out (by repeat (first | (with_reducible first | exact HB.out | apply below_alloc | apply pw_below_drewN | apply below_drew1) | exact HB.out))) | (with_reducible refine Kd.C_alloc ?_ _) | (with_reducible refine Kd.C_drewN ?_ _) | (with_reducible refine Kd.C_drew ?_))); (case side2 => exact HC2.out); rintro e w92 ⟨v247, rfl, ho0, hb⟩; refine ⟨_, rfl, ?_⟩; have n0_ := Aside0.mk (Kd.R_lower ho0 (below_size (by repeat (first | (with_reducible first | exact HB.out | apply below_alloc | apply pw_below_drewN | apply below_drew1) | exact HB.out)))); have n1_ := Aside0.mk (below_step (by repeat (first | (with_reducible first | exact HB.out | apply below_alloc | apply pw_below_drewN | apply below_drew1) | exact HB.out)) hb); clear HB; have HO248 := n0_; have HB := n1_; clear n0_ n1_; (try clear hb); (try clear hb2); (try clear hk); (try clear hi); (try clear ho0)))
              go_ret
              exact ⟨by first | rfl | (simp [errW_none, errW_some] <;> rfl) | (simp [*, errW_none, errW_some] <;> rfl), below_step HBZ.out (by repeat (first | (with_reducible first | exact HB.out | apply below_alloc | apply pw_below_drewN | apply below_drew1) | exact HB.out))⟩
end


end Go.Proofs.Ytnfcgofpfhajoaa.QFnHands
