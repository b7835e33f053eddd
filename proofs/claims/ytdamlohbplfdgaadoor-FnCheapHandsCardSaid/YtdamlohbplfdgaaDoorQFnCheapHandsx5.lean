/- Functions and contracts of one law, printed by this session's own program (contracts by hand among them). -/
import Derived.Test.YtdamlohbplfdgaaDoorQFnCheapHandsx0
import Derived.Test.YtdamlohbplfdgaaDoorQFnCheapHandsx1
import Derived.Test.YtdamlohbplfdgaaDoorQFnCheapHandsx3
import Derived.Test.YtdamlohbplfdgaaDoorQFnCheapHandsx4
namespace Go.Proofs.YtdamlohbplfdgaaDoor.QFnCheapHands
open Go.RowKit Go.Proofs.YtdamlohbplfdgaaDoorW.PrintWords Go.Proofs.YtdamlohbplfdgaaDoorW.PrintLast Go.Proofs.YtdamlohbplfdgaaDoorW.PrintMore
attribute [local go_sem] max2_int min2_int max_two min_two max_three min_three max_four min_four   -- for this text's walks alone
set_option linter.unusedVariables false
set_option linter.unusedSimpArgs false

/-! ### laws_a2Cost: function 11 -/
def laws_a2Cost.l0 : Nat → List (S33) → List Int → Int → Int → Int → Option (Int × Int)
  | 0, _, _, _, _, _ => none
  | k + 1, x0, x1, x6, x7, x8 => if x8 < (x1.length : Int) then (if 0 ≤ x8 then (if 0 ≤ (rd x1 x8) then (if (rd x1 x8) < (x0.length : Int) then ((laws_a2Sum.f k ((rd_T33 x0 (rd x1 x8)).f1)).bind fun t197 => ((laws_a2Sum.f k ((rd_T33 x0 (rd x1 x8)).f1)).bind fun t198 => (laws_a2Cost.l0 k x0 x1 (wrap64 (x6 + t197)) (wrap64 (x7 + (wrap64 (Int.tdiv (wrap64 (((rd_T33 x0 (rd x1 x8)).f2) * t198)) 60)))) (wrap64 (x8 + 1))))) else (none)) else (none)) else (none)) else (some (x6, x7))
def laws_a2Cost.f (k : Nat) (l0 : List (S33)) (l1 : List Int) : Option (Int × Int) := laws_a2Cost.l0 k l0 l1 0 0 0
theorem laws_a2Cost.mono_l : ∀ k, (∀ y0 y1 y2 y3 y4, LeO (laws_a2Cost.l0 k y0 y1 y2 y3 y4) (laws_a2Cost.l0 (k + 1) y0 y1 y2 y3 y4))
  | 0 => fun _ _ _ _ _ r h => by simp [laws_a2Cost.l0] at h
  | k + 1 => by
    have ih0 := laws_a2Cost.mono_l k
    · intro y0 y1 y2 y3 y4
      unfold laws_a2Cost.l0
      repeat' first
      | (with_reducible exact ih0 _ _ _ _ _)
      | (with_reducible exact laws_a2Sum.mono _ _)
      | (with_reducible exact LeO.refl _)
      | (with_reducible exact LeO.none _)
      | (with_reducible refine LeO.ite ?_ ?_)
      | (with_reducible refine LeO.bind ?_ (fun _ => ?_))
      | exact ih0 _ _ _ _ _
      | exact laws_a2Sum.mono _ _
      | exact LeO.none _
      | refine LeO.ite ?_ ?_
      | refine LeO.bind ?_ (fun _ => ?_)
theorem laws_a2Cost.mono : ∀ a0 a1 k, LeO (laws_a2Cost.f k a0 a1) (laws_a2Cost.f (k + 1) a0 a1) := by
  intro a0 a1 k
  have ih0 := laws_a2Cost.mono_l k
  unfold laws_a2Cost.f
  repeat' first
      | (with_reducible exact ih0 _ _ _ _ _)
      | (with_reducible exact laws_a2Sum.mono _ _)
      | (with_reducible exact LeO.refl _)
      | (with_reducible exact LeO.none _)
      | (with_reducible refine LeO.ite ?_ ?_)
      | (with_reducible refine LeO.bind ?_ (fun _ => ?_))
      | exact ih0 _ _ _ _ _
      | exact laws_a2Sum.mono _ _
      | exact LeO.none _
      | refine LeO.ite ?_ ?_
      | refine LeO.bind ?_ (fun _ => ?_)
set_option maxHeartbeats 8000000 in
set_option maxRecDepth 100000 in
theorem laws_a2Cost.calls (k : Nat) (A0 : Option Addr) (c0 : Nat) (l0 : List (S33)) (A1 : Option Addr) (c1 : Nat) (l1 : List Int) (r1 : Int) (r2 : Int) (w : World) (hr0 : Kd.C k33 w A0 l0.length l0) (hc0 : l0.length ≤ c0) (hr1 : Kd.C (Kd.int .i64) w A1 l1.length l1) (hc1 : l1.length ≤ c1) (h : laws_a2Cost.f k l0 l1 = some (r1, r2)) :
    Calls Tryd.prog 11 #[.slice A0 l0.length c0, .slice A1 l1.length c1] w fun e w' => e = .returned (.tuple #[.int .i64 r1, .int .i64 r2]) ∧ Below w.heap.size w w' := by
  have hu33 := Tryd.underlying33
  have HR0 := Aside0.mk hr0
  have HC0 := Aside0.mk hc0
  clear hr0 hc0
  have HR1 := Aside0.mk hr1
  have HC1 := Aside0.mk hc1
  clear hr1 hc1
  have HB := Aside0.mk (Below.refl w.heap.size w)
  have H : (laws_a2Cost.l0 k l0 l1 0 0 0) = some (r1, r2) := h
  clear h
  have H' := Aside0.mk H
  clear H
  go_enter Tryd.func11, Tryd.ntmps11
  go_wp2
  repeat (go_quiet (fail); try go_wp2)
  go_loopg [6, 7, 8] k (fun kq v6 v7 v8 w' => ∃ (x6_1 : Int) (x7_1 : Int) (x8_1 : Int), v6 = .int .i64 x6_1 ∧ v7 = .int .i64 x7_1 ∧ v8 = .int .i64 x8_1 ∧ Aside0 (laws_a2Cost.l0 kq l0 l1 x6_1 x7_1 x8_1 = some (r1, r2)) ∧ Aside0 (kq ≤ k) ∧ Aside0 (Below w.heap.size w w'))
  case atStart => exact ⟨(0), (0), (0), (by first | rfl | (simp; done) | (simp [*]; done)), (by first | rfl | (simp; done) | (simp [*]; done)), (by first | rfl | (simp; done) | (simp [*]; done)), H', ⟨Nat.le_refl _⟩, ⟨by repeat (first | (with_reducible first | exact HB.out | apply below_alloc | apply pw_below_drewN | apply below_drew1) | exact HB.out)⟩⟩
  case round =>
    clear H'
    try clear c1
    try clear p2
    obtain ⟨x6_1, x7_1, x8_1, rfl, rfl, rfl, HA, HK1, HB⟩ := hrel
    cases gk with
    | zero => exact absurd HA.out (by simp [laws_a2Cost.l0])
    | succ k1 =>
      have H := HA.out
      clear HA
      simp only [laws_a2Cost.l0] at H
      by_cases c3 : x8_1 < (l1.length : Int)
      · rw [if_pos c3] at H
        have c3b0 : decide (x8_1 < (l1.length : Int)) = true := decide_eq_true c3
        clear c3
        by_cases c4 : 0 ≤ x8_1
        · rw [if_pos c4] at H
          have c4b0 : decide (0 ≤ x8_1) = true := decide_eq_true c4
          clear c4
          by_cases c5 : 0 ≤ (rd l1 x8_1)
          · rw [if_pos c5] at H
            have c5b0 : decide (0 ≤ (rd l1 x8_1)) = true := decide_eq_true c5
            clear c5
            by_cases c6 : (rd l1 x8_1) < (l0.length : Int)
            · rw [if_pos c6] at H
              have c6b0 : decide ((rd l1 x8_1) < (l0.length : Int)) = true := decide_eq_true c6
              clear c6
              replace H := Option.bind_eq_some_iff.mp H
              obtain ⟨t197, A70, H⟩ := H
              replace H : ((laws_a2Sum.f k1 ((rd_T33 l0 (rd l1 x8_1)).f1)).bind fun t198 => (laws_a2Cost.l0 k1 l0 l1 (wrap64 (x6_1 + t197)) (wrap64 (x7_1 + (wrap64 (Int.tdiv (wrap64 (((rd_T33 l0 (rd l1 x8_1)).f2) * t198)) 60)))) (wrap64 (x8_1 + 1)))) = some (r1, r2) := H
              have A7 := Aside0.mk A70
              clear A70
              replace H := Option.bind_eq_some_iff.mp H
              obtain ⟨t198, A80, H⟩ := H
              replace H : (laws_a2Cost.l0 k1 l0 l1 (wrap64 (x6_1 + t197)) (wrap64 (x7_1 + (wrap64 (Int.tdiv (wrap64 (((rd_T33 l0 (rd l1 x8_1)).f2) * t198)) 60)))) (wrap64 (x8_1 + 1))) = some (r1, r2) := H
              have A8 := Aside0.mk A80
              clear A80
              have AE_ := Aside0.mk (Option.some.inj (A7.out.symm.trans A8.out))
              have H' := Aside0.mk H
              clear H
              have p194 : 0 ≤ (x8_1 : Int) := of_decide_eq_true (by first | (with_reducible assumption) | assumption)
              have q194 : x8_1 < (l1.length : Int) := of_decide_eq_true (by first | (with_reducible assumption) | assumption)
              obtain ⟨ad194, e194, hx194_0⟩ := Kd.at_int HR1.out x8_1 p194 q194
              cases e194
              replace hx194_0 := (HB.out.cell (World.block_lt_of_cell? w _ hx194_0)).trans hx194_0
              replace p194 := eq_true p194
              replace q194 := eq_true q194
              have p195 : 0 ≤ ((rd l1 x8_1) : Int) := of_decide_eq_true (by first | (with_reducible assumption) | assumption)
              have q195 : (rd l1 x8_1) < (l0.length : Int) := of_decide_eq_true (by first | (with_reducible assumption) | assumption)
              obtain ⟨ad195, A195_1, c195_1, e195, hx195_0, hx195_1, hx195_2, hl195_1, hi195_1⟩ := at_T33 HR0.out (rd l1 x8_1) p195 q195
              cases e195
              replace hx195_0 := (HB.out.cell (World.block_lt_of_cell? w _ hx195_0)).trans hx195_0
              replace hx195_1 := (HB.out.cell (World.block_lt_of_cell? w _ hx195_1)).trans hx195_1
              replace hx195_2 := (HB.out.cell (World.block_lt_of_cell? w _ hx195_2)).trans hx195_2
              have HR195_1 := Aside0.mk hi195_1
              have HC195_1 := Aside0.mk hl195_1
              clear hi195_1 hl195_1
              replace p195 := eq_true p195
              replace q195 := eq_true q195
              go_wp2_with (first | ((with_reducible refine gate_dst (N := 9) rfl ?_); refine box_event ?hg (N := 9) ?hd (cs := #[.string (⟨#[]⟩ : ByteArray), .slice none 0 0, .int .i64 0]) (t := 33) ?hr ?_; (case hd => rfl); (case hg => rfl); (case hr => first | (go_simp; done) | (go_simp; rfl)); intro gb196 hg w9 hbox hb; have n0_ := Aside0.mk (below_step (by repeat (first | (with_reducible first | exact HB.out | apply below_alloc | apply pw_below_drewN | apply below_drew1) | exact HB.out)) hb); have n1_ := Aside0.mk (hbox); have n2_ := Aside0.mk ((by rw [hg]; exact (below_size (by repeat (first | (with_reducible first | exact HB.out | apply below_alloc | apply pw_below_drewN | apply below_drew1) | exact HB.out))) : w.heap.size ≤ gb196)); have n3_ := Aside0.mk ((by rw [hg]; exact (below_size (by repeat (first | (with_reducible first | exact HB.out | apply below_alloc | apply pw_below_drewN | apply below_drew1) | exact HB.out))) : w.heap.size ≤ gb196)); clear HB; have HB := n0_; have BK196 := n1_; have GW196 := n2_; have GE196 := n3_; clear n0_ n1_ n2_ n3_; clear hb hbox hg; have hcz10_0 : w9.cell? ⟨gb196, 0, none⟩ = some (.string (⟨#[]⟩ : ByteArray)) := (blk_cell BK196.out 0).trans rfl; have hcz10_1 : w9.cell? ⟨gb196, 1, none⟩ = some (.slice none 0 0) := (blk_cell BK196.out 1).trans rfl; have hcz10_2 : w9.cell? ⟨gb196, 2, none⟩ = some (.int .i64 0) := (blk_cell BK196.out 2).trans rfl; have hfz10_0 := blk_frozen BK196.out 0; have hfz10_1 := blk_frozen BK196.out 1; have hfz10_2 := blk_frozen BK196.out 2) | (go_at_call 9; (with_reducible refine (laws_a2Sum.calls k1 _ _ ((rd_T33 l0 (rd l1 x8_1)).f1) t197 _ ?side1 ?side2 A7.out).mono ?_); (case side1 => exact Kd.C_below HR195_1.out (by repeat (first | (with_reducible first | exact HB.out | apply below_alloc | apply pw_below_drewN | apply below_drew1 | refine below_set ?_ GE196.out) | exact HB.out))); (case side2 => exact HC195_1.out); rintro e w' ⟨rfl, ⟨nd, rfl⟩⟩; (try first | exact ⟨rfl, _, World.drewN_drewN _ _ _⟩ | exact ⟨rfl, _, Eq.trans (World.drewN_drewN _ _ _) (congrArg (World.drewN _) (Nat.add_assoc _ _ _))⟩)) | (go_at_call 9; (with_reducible refine (laws_a2Sum.calls k1 _ _ ((rd_T33 l0 (rd l1 x8_1)).f1) t198 _ ?side1 ?side2 A8.out).mono ?_); (case side1 => exact Kd.C_below HR195_1.out (by repeat (first | (with_reducible first | exact HB.out | apply below_alloc | apply pw_below_drewN | apply below_drew1 | refine below_set ?_ GE196.out) | exact HB.out))); (case side2 => exact HC195_1.out); rintro e w' ⟨rfl, ⟨nd, rfl⟩⟩; (try first | exact ⟨rfl, _, World.drewN_drewN _ _ _⟩ | exact ⟨rfl, _, Eq.trans (World.drewN_drewN _ _ _) (congrArg (World.drewN _) (Nat.add_assoc _ _ _))⟩)))
              repeat (go_quiet (first | ((with_reducible refine gate_dst (N := 9) rfl ?_); refine box_event ?hg (N := 9) ?hd (cs := #[.string (⟨#[]⟩ : ByteArray), .slice none 0 0, .int .i64 0]) (t := 33) ?hr ?_; (case hd => rfl); (case hg => rfl); (case hr => first | (go_simp; done) | (go_simp; rfl)); intro gb196 hg w9 hbox hb; have n0_ := Aside0.mk (below_step (by repeat (first | (with_reducible first | exact HB.out | apply below_alloc | apply pw_below_drewN | apply below_drew1) | exact HB.out)) hb); have n1_ := Aside0.mk (hbox); have n2_ := Aside0.mk ((by rw [hg]; exact (below_size (by repeat (first | (with_reducible first | exact HB.out | apply below_alloc | apply pw_below_drewN | apply below_drew1) | exact HB.out))) : w.heap.size ≤ gb196)); have n3_ := Aside0.mk ((by rw [hg]; exact (below_size (by repeat (first | (with_reducible first | exact HB.out | apply below_alloc | apply pw_below_drewN | apply below_drew1) | exact HB.out))) : w.heap.size ≤ gb196)); clear HB; have HB := n0_; have BK196 := n1_; have GW196 := n2_; have GE196 := n3_; clear n0_ n1_ n2_ n3_; clear hb hbox hg; have hcz10_0 : w9.cell? ⟨gb196, 0, none⟩ = some (.string (⟨#[]⟩ : ByteArray)) := (blk_cell BK196.out 0).trans rfl; have hcz10_1 : w9.cell? ⟨gb196, 1, none⟩ = some (.slice none 0 0) := (blk_cell BK196.out 1).trans rfl; have hcz10_2 : w9.cell? ⟨gb196, 2, none⟩ = some (.int .i64 0) := (blk_cell BK196.out 2).trans rfl; have hfz10_0 := blk_frozen BK196.out 0; have hfz10_1 := blk_frozen BK196.out 1; have hfz10_2 := blk_frozen BK196.out 2) | (go_at_call 9; (with_reducible refine (laws_a2Sum.calls k1 _ _ ((rd_T33 l0 (rd l1 x8_1)).f1) t197 _ ?side1 ?side2 A7.out).mono ?_); (case side1 => exact Kd.C_below HR195_1.out (by repeat (first | (with_reducible first | exact HB.out | apply below_alloc | apply pw_below_drewN | apply below_drew1 | refine below_set ?_ GE196.out) | exact HB.out))); (case side2 => exact HC195_1.out); rintro e w' ⟨rfl, ⟨nd, rfl⟩⟩; (try first | exact ⟨rfl, _, World.drewN_drewN _ _ _⟩ | exact ⟨rfl, _, Eq.trans (World.drewN_drewN _ _ _) (congrArg (World.drewN _) (Nat.add_assoc _ _ _))⟩)) | (go_at_call 9; (with_reducible refine (laws_a2Sum.calls k1 _ _ ((rd_T33 l0 (rd l1 x8_1)).f1) t198 _ ?side1 ?side2 A8.out).mono ?_); (case side1 => exact Kd.C_below HR195_1.out (by repeat (first | (with_reducible first | exact HB.out | apply below_alloc | apply pw_below_drewN | apply below_drew1 | refine below_set ?_ GE196.out) | exact HB.out))); (case side2 => exact HC195_1.out); rintro e w' ⟨rfl, ⟨nd, rfl⟩⟩; (try first | exact ⟨rfl, _, World.drewN_drewN _ _ _⟩ | exact ⟨rfl, _, Eq.trans (World.drewN_drewN _ _ _) (congrArg (World.drewN _) (Nat.add_assoc _ _ _))⟩))); try go_wp2_with (first | ((with_reducible refine gate_dst (N := 9) rfl ?_); refine box_event ?hg (N := 9) ?hd (cs := #[.string (⟨#[]⟩ : ByteArray), .slice none 0 0, .int .i64 0]) (t := 33) ?hr ?_; (case hd => rfl); (case hg => rfl); (case hr => first | (go_simp; done) | (go_simp; rfl)); intro gb196 hg w9 hbox hb; have n0_ := Aside0.mk (below_step (by repeat (first | (with_reducible first | exact HB.out | apply below_alloc | apply pw_below_drewN | apply below_drew1) | exact HB.out)) hb); have n1_ := Aside0.mk (hbox); have n2_ := Aside0.mk ((by rw [hg]; exact (below_size (by repeat (first | (with_reducible first | exact HB.out | apply below_alloc | apply pw_below_drewN | apply below_drew1) | exact HB.out))) : w.heap.size ≤ gb196)); have n3_ := Aside0.mk ((by rw [hg]; exact (below_size (by repeat (first | (with_reducible first | exact HB.out | apply below_alloc | apply pw_below_drewN | apply below_drew1) | exact HB.out))) : w.heap.size ≤ gb196)); clear HB; have HB := n0_; have BK196 := n1_; have GW196 := n2_; have GE196 := n3_; clear n0_ n1_ n2_ n3_; clear hb hbox hg; have hcz10_0 : w9.cell? ⟨gb196, 0, none⟩ = some (.string (⟨#[]⟩ : ByteArray)) := (blk_cell BK196.out 0).trans rfl; have hcz10_1 : w9.cell? ⟨gb196, 1, none⟩ = some (.slice none 0 0) := (blk_cell BK196.out 1).trans rfl; have hcz10_2 : w9.cell? ⟨gb196, 2, none⟩ = some (.int .i64 0) := (blk_cell BK196.out 2).trans rfl; have hfz10_0 := blk_frozen BK196.out 0; have hfz10_1 := blk_frozen BK196.out 1; have hfz10_2 := blk_frozen BK196.out 2) | (go_at_call 9; (with_reducible refine (laws_a2Sum.calls k1 _ _ ((rd_T33 l0 (rd l1 x8_1)).f1) t197 _ ?side1 ?side2 A7.out).mono ?_); (case side1 => exact Kd.C_below HR195_1.out (by repeat (first | (with_reducible first | exact HB.out | apply below_alloc | apply pw_below_drewN | apply below_drew1 | refine below_set ?_ GE196.out) | exact HB.out))); (case side2 => exact HC195_1.out); rintro e w' ⟨rfl, ⟨nd, rfl⟩⟩; (try first | exact ⟨rfl, _, World.drewN_drewN _ _ _⟩ | exact ⟨rfl, _, Eq.trans (World.drewN_drewN _ _ _) (congrArg (World.drewN _) (Nat.add_assoc _ _ _))⟩)) | (go_at_call 9; (with_reducible refine (laws_a2Sum.calls k1 _ _ ((rd_T33 l0 (rd l1 x8_1)).f1) t198 _ ?side1 ?side2 A8.out).mono ?_); (case side1 => exact Kd.C_below HR195_1.out (by repeat (first | (with_reducible first | exact HB.out | apply below_alloc | apply pw_below_drewN | apply below_drew1 | refine below_set ?_ GE196.out) | exact HB.out))); (case side2 => exact HC195_1.out); rintro e w' ⟨rfl, ⟨nd, rfl⟩⟩; (try first | exact ⟨rfl, _, World.drewN_drewN _ _ _⟩ | exact ⟨rfl, _, Eq.trans (World.drewN_drewN _ _ _) (congrArg (World.drewN _) (Nat.add_assoc _ _ _))⟩))))
              go_roundg k1
              case measure => have := HK1.out; omega
              case rel => have HE_ := AE_.out; exact ⟨(wrap64 (x6_1 + t197)), (wrap64 (x7_1 + (wrap64 (Int.tdiv (wrap64 (((rd_T33 l0 (rd l1 x8_1)).f2) * t198)) 60)))), (wrap64 (x8_1 + 1)), (by first | rfl | (simp; done) | (simp [*]; done)), (by first | rfl | (simp; done) | (simp [*]; done)), (by first | rfl | (simp; done) | (simp [*]; done)), H', ⟨by have := HK1.out; omega⟩, ⟨by repeat (first | (with_reducible first | exact HB.out | apply below_alloc | apply pw_below_drewN | apply below_drew1 | refine below_set ?_ GE196.out) | exact HB.out)⟩⟩
            · rw [if_neg c6] at H
              exact absurd H (by simp)
          · rw [if_neg c5] at H
            exact absurd H (by simp)
        · rw [if_neg c4] at H
          exact absurd H (by simp)
      · rw [if_neg c3] at H
        have c3b0 : decide (x8_1 < (l1.length : Int)) = false := decide_eq_false c3
        clear c3
        simp only [Option.some.injEq, Prod.mk.injEq] at H
        obtain ⟨rfl, rfl⟩ := H
        go_wp2
        repeat (go_quiet (fail); try go_wp2)
        go_ret2
        exact ⟨by first | rfl | (simp [errW_none, errW_some] <;> rfl) | (simp [*, errW_none, errW_some] <;> rfl), by repeat (first | (with_reducible first | exact HB.out | apply below_alloc | apply pw_below_drewN | apply below_drew1) | exact HB.out)⟩

/-! ### impl_BusiestDay: function 12, by hand -/
section
open Go.Proofs.YtdamlohbplfdgaaDoor.Base
def dayB (l : List S33) (d : Nat) : Nat → Int
  | 0 => 0
  | i + 1 => dayB l d i + (if d < (rd_T33 l (i : Int)).f1.length then rd (rd_T33 l (i : Int)).f1 (d : Int) else 0)
def bestB (l : List S33) (n : Nat) : Nat → Nat
  | 0 => 0
  | d + 1 => if dayB l (bestB l n d) n < dayB l d n then d else bestB l n d
def busyB (l : List S33) : Int × Int × Int := if dayB l (bestB l l.length 14) l.length = 0 then (0, 0, 3) else ((bestB l l.length 14 : Nat), dayB l (bestB l l.length 14) l.length, 0)
def impl_BusiestDay.f (l0 : List S33) : Option (Int × Int × Int) := if handsOk (hdI l0) l0.length = true then some (busyB l0) else some (0, 0, 1)
def dayC (l : List S33) (i k d : Nat) : Int := dayB l d i + (if d < k then rd (rd_T33 l (i : Int)).f1 (d : Int) else 0)
theorem dayC_zero (l : List S33) (i d : Nat) : dayC l i 0 d = dayB l d i := by unfold dayC; rw [if_neg (Nat.not_lt_zero _), Int.add_zero]
theorem dayC_len (l : List S33) (i d : Nat) : dayC l i (rd_T33 l (i : Int)).f1.length d = dayB l d (i + 1) := rfl
theorem dayC_at (l : List S33) (i k : Nat) : dayC l i (k + 1) k = dayC l i k k + rd (rd_T33 l (i : Int)).f1 (k : Int) := by unfold dayC; rw [if_pos (Nat.lt_succ_self _), if_neg (Nat.lt_irrefl _), Int.add_zero]
theorem dayC_off (l : List S33) (i k d : Nat) (h : ¬ d = k) : dayC l i (k + 1) d = dayC l i k d := by
  unfold dayC
  by_cases c : d < k
  · rw [if_pos c, if_pos (by omega)]
  · rw [if_neg c, if_neg (by omega)]
theorem hands_each {l : List S33} (h : handsOk (hdI l) l.length = true) : l.length ≤ 10 ∧ ∀ i, i < l.length → (rd_T33 l (i : Int)).f1.length ≤ 14 ∧ ∀ x ∈ (rd_T33 l (i : Int)).f1, 0 ≤ x ∧ x ≤ 1440 := by
  unfold handsOk at h
  rw [Bool.and_eq_true, List.all_eq_true] at h
  refine ⟨of_decide_eq_true h.2, fun i hi => ?_⟩
  have := h.1 i (List.mem_range.2 hi)
  unfold fitH at this
  rw [Bool.and_eq_true] at this
  have h2 := handV_shift this.1
  exact ⟨h2.2.1, h2.1⟩
theorem rd_in {l : List Int} (h : ∀ x ∈ l, 0 ≤ x ∧ x ≤ 1440) {k : Nat} (hk : k < l.length) : 0 ≤ rd l (k : Int) ∧ rd l (k : Int) ≤ 1440 := by
  rw [rd_nat l k hk]; exact h _ (List.getElem_mem hk)
theorem dayB_bd {l : List S33} (h : handsOk (hdI l) l.length = true) (d : Nat) : ∀ i, i ≤ l.length → 0 ≤ dayB l d i ∧ dayB l d i ≤ 1440 * i
  | 0, _ => by simp [dayB]
  | i + 1, hi => by
    have ih := dayB_bd h d i (by omega)
    have he := (hands_each h).2 i (by omega)
    simp only [dayB]
    split
    · rename_i c
      have := rd_in he.2 c
      omega
    · omega
theorem dayC_bd {l : List S33} (h : handsOk (hdI l) l.length = true) {i k : Nat} (hi : i < l.length) (hk : k ≤ (rd_T33 l (i : Int)).f1.length) (d : Nat) : 0 ≤ dayC l i k d ∧ dayC l i k d ≤ 14400 := by
  have hb := dayB_bd h d i (by omega)
  have he := hands_each h
  unfold dayC
  split
  · rename_i c
    have := rd_in (he.2 i hi).2 (k := d) (by omega)
    omega
  · omega
theorem bestB_lt (l : List S33) (n : Nat) : ∀ d, bestB l n d < 14 ∨ 14 < d
  | 0 => .inl (by simp [bestB])
  | d + 1 => by
    rcases bestB_lt l n d with h | h
    · simp only [bestB]
      split
      · omega
      · omega
    · exact .inr (by omega)
set_option maxHeartbeats 8000000 in
set_option maxRecDepth 100000 in
theorem impl_BusiestDay.calls (A0 : Option Addr) (c0 : Nat) (l0 : List (S33)) (r1 : Int) (r2 : Int) (r3 : Int) (w : World) (hr0 : Kd.C k33 w A0 l0.length l0) (hc0 : l0.length ≤ c0) (h : impl_BusiestDay.f l0 = some (r1, r2, r3)) :
    Calls Tryd.prog 12 #[.slice A0 l0.length c0] w fun e w' => e = .returned (.tuple #[.int .i64 r1, .int .i64 r2, .int .i64 r3]) ∧ Below w.heap.size w w' := by
  have hm := Kd.C_max hr0
  have I1 := Aside0.mk (impl_ValidHands.calls A0 c0 l0 _ w hr0 hc0 rfl)
  have HR0 := Aside0.mk hr0
  have HC0 := Aside0.mk hc0
  clear hr0 hc0
  unfold impl_BusiestDay.f at h
  generalize hv : handsOk (hdI l0) l0.length = v at h I1
  have HV := Aside0.mk hv
  clear hv
  cases v with
  | false =>
    simp only [Bool.false_eq_true, if_false, Option.some.injEq, Prod.mk.injEq] at h
    obtain ⟨rfl, rfl, rfl⟩ := h
    go_enter Tryd.func12, Tryd.ntmps12
    go_wp2_with (go_at_call 17; (with_reducible refine I1.out.mono ?_); rintro e w' ⟨rfl, hb⟩)
    go_ret3
    exact ⟨rfl, hb⟩
  | true =>
    simp only [if_true, Option.some.injEq] at h
    have HA := Aside0.mk h
    clear h
    go_enter Tryd.func12, Tryd.ntmps12
    go_wp2_with (go_at_call 17; (with_reducible refine I1.out.mono ?_); rintro e w1 ⟨rfl, hb⟩; have HB1 := Aside0.mk hb; clear hb)
    have HV2 := Aside0.mk (hands_each HV.out)
    have HS1 := Aside0.mk HB1.out.size
    have HW2 : Aside0 (∃ w2, w2 = w1.alloc (.cells #[.int .i64 0, .int .i64 0, .int .i64 0, .int .i64 0, .int .i64 0, .int .i64 0, .int .i64 0, .int .i64 0, .int .i64 0, .int .i64 0, .int .i64 0, .int .i64 0, .int .i64 0, .int .i64 0] 51)) := ⟨_, rfl⟩
    generalize hBB : w1.heap.size = B at *
    have HBB := Aside0.mk hBB
    clear hBB
    go_loopw [7, 8, 9, 18] (fun _ _ _ v18 w' => ∃ i : Nat, v18 = .int .i64 i ∧ i ≤ l0.length ∧ Aside0 (Below w.heap.size w w') ∧ Aside0 (w'.rowIs B 51 14 (fun d => .int .i64 (dayB l0 d i)))) (fun _ _ _ v18 _ => l0.length - (intOf v18).toNat)
    case atStart =>
      refine ⟨0, rfl, Nat.zero_le _, ⟨below_alloc HB1.out _⟩, ⟨?_⟩⟩
      have := World.rowIs_alloc w1 #[.int .i64 0, .int .i64 0, .int .i64 0, .int .i64 0, .int .i64 0, .int .i64 0, .int .i64 0, .int .i64 0, .int .i64 0, .int .i64 0, .int .i64 0, .int .i64 0, .int .i64 0, .int .i64 0] 51 (fun d => .int .i64 (dayB l0 d 0)) (by
        intro d hd
        have hd : d < 14 := hd
        show (Array.replicate 14 (Value.int .i64 0))[d]? = some (.int .i64 0)
        rw [Array.getElem?_replicate, if_pos hd])
      rw [HBB.out] at this
      exact this
    case round =>
      obtain ⟨i, rfl, hi, hw, hrow⟩ := hrel
      by_cases hlt : i < l0.length
      · have p1 : (0 : Int) ≤ (i : Int) := Int.natCast_nonneg i
        have p2 : (i : Int) < (l0.length : Int) := Int.ofNat_lt.2 hlt
        obtain ⟨ad, A1, c1, rfl, d0, d1, d2, hl1, hC1⟩ := at_T33 HR0.out (i : Int) p1 p2
        rw [Int.toNat_natCast] at d0 d1 d2
        replace d0 := pw_cell_below hw.out d0
        replace d1 := pw_cell_below hw.out d1
        replace d2 := pw_cell_below hw.out d2
        have HC1 := Aside0.mk hC1
        have HB3 := Aside0.mk (fun k (hk : k ≤ (rd_T33 l0 (i : Int)).f1.length) d => dayC_bd HV.out hlt hk d)
        have HX := Aside0.mk ((HV2.out.2 i hlt).2)
        have h14 : (rd_T33 l0 (i : Int)).f1.length ≤ 14 := (HV2.out.2 i hlt).1
        have hBr : B < wr.heap.size := hrow.out.lt
        have hrow' := hrow
        clear hC1 hl1
        go_wp2
        go_loopw [8, 9, 25] (fun _ _ v25 w' => ∃ k : Nat, v25 = .int .i64 k ∧ k ≤ (rd_T33 l0 (i : Int)).f1.length ∧ Aside0 (Below w.heap.size w w') ∧ Aside0 (w'.rowIs B 51 14 (fun d => .int .i64 (dayC l0 i k d)))) (fun _ _ v25 _ => (rd_T33 l0 (i : Int)).f1.length - (intOf v25).toNat)
        case atStart => exact ⟨0, rfl, Nat.zero_le _, ⟨below_alloc hw.out _⟩, ⟨(hrow.out.alloc _).congr fun d _ => by rw [dayC_zero]⟩⟩
        case round =>
          rename_i wr2 _
          obtain ⟨k, rfl, hk, hw2, hrow2⟩ := hrel
          by_cases hkl : k < (rd_T33 l0 (i : Int)).f1.length
          · have q1 : (0 : Int) ≤ (k : Int) := Int.natCast_nonneg k
            have q2 : (k : Int) < ((rd_T33 l0 (i : Int)).f1.length : Int) := Int.ofNat_lt.2 hkl
            have q3 : (k : Int) < 14 := by omega
            obtain ⟨ad1, rfl, hx⟩ := Kd.at_int (Kd.C_below HC1.out hw2.out) (k : Int) q1 q2
            rw [Int.toNat_natCast] at hx
            have hx2 := hrow2.out.cell (i := k) (by omega)
            have hx3 := hrow2.out.frozen k
            have z1 := HB3.out k hk k
            have z2 := rd_in HX.out hkl
            have z3 := Aside0.mk (dayC_at l0 i k)
            have z4 := Aside0.mk (dayC_off l0 i k)
            obtain ⟨z5, z6⟩ := z1
            obtain ⟨z7, z8⟩ := z2
            generalize hsv : dayC l0 i k k = sv at hx2 z3 z5 z6
            generalize rd (rd_T33 l0 (i : Int)).f1 (k : Int) = mv at hx z3 z7 z8
            have hBw : w.heap.size ≤ B := by have := HS1.out; have := HBB.out; omega
            have HSV := Aside0.mk hsv
            clear hsv
            go_wp2
            go_roundw
            case rel => exact ⟨k + 1, by go_num, by omega, ⟨below_set hw2.out hBw⟩, ⟨(hrow2.out.set k _).congr fun d _ => by
              by_cases e : d = k
              · subst e; rw [if_pos rfl, z3.out]
              · rw [if_neg e, z4.out d e]⟩⟩
            case measure => simp [intOf]; omega
          · obtain rfl : k = (rd_T33 l0 (i : Int)).f1.length := by omega
            go_wp2
            go_roundw
            case rel => exact ⟨i + 1, by go_num, by omega, hw2, ⟨hrow2.out.congr fun d _ => by rw [dayC_len]⟩⟩
            case measure => simp [intOf]; omega
      · obtain rfl : i = l0.length := by omega
        go_wp2
        go_loopw [10, 11, 38] (fun v10 _ v38 w' => ∃ d : Nat, v38 = .int .i64 d ∧ d ≤ 14 ∧ v10 = .int .i64 (bestB l0 l0.length d : Nat) ∧ Aside0 (Below w.heap.size w w') ∧ Aside0 (w'.rowIs B 51 14 (fun d => .int .i64 (dayB l0 d l0.length)))) (fun _ _ v38 _ => 14 - (intOf v38).toNat)
        case atStart => exact ⟨0, rfl, Nat.zero_le _, rfl, hw, hrow⟩
        case round =>
          rename_i wr2 _
          obtain ⟨d, rfl, hd, rfl, hw2, hrow2⟩ := hrel
          have hbl := bestB_lt l0 l0.length d
          have HN := Aside0.mk (show bestB l0 l0.length (d + 1) = if dayB l0 (bestB l0 l0.length d) l0.length < dayB l0 d l0.length then d else bestB l0 l0.length d from rfl)
          generalize hbb : bestB l0 l0.length d = b at *
          have HBb := Aside0.mk hbb
          clear hbb
          have hb14 : b < 14 := by omega
          have y2 := hrow2.out.cell (i := b) hb14
          have q4 : (0 : Int) ≤ (b : Int) := Int.natCast_nonneg b
          have q5 : (b : Int) < 14 := by omega
          by_cases hd14 : d < 14
          · have q1 : (0 : Int) ≤ (d : Int) := Int.natCast_nonneg d
            have q3 : (d : Int) < 14 := by omega
            have y1 := hrow2.out.cell (i := d) hd14
            generalize dayB l0 d l0.length = sd at *
            generalize dayB l0 b l0.length = sb at *
            by_cases hgt : sb < sd
            · have hN : bestB l0 l0.length (d + 1) = d := by rw [HN.out, if_pos hgt]
              have HN2 := Aside0.mk hN
              clear hN
              have e1 : decide (sb < sd) = true := decide_eq_true hgt
              go_wp2
              go_quiet (fail)
              go_wp2
              go_roundw
              case rel => exact ⟨d + 1, by go_num, by omega, by rw [HN2.out], ⟨pw_below_drewN hw2.out _⟩, hrow2⟩
              case measure => simp [intOf]; omega
            · have hN : bestB l0 l0.length (d + 1) = b := by rw [HN.out, if_neg hgt]
              have HN2 := Aside0.mk hN
              clear hN
              have e1 : decide (sb < sd) = false := decide_eq_false hgt
              go_wp2
              go_quiet (fail)
              go_wp2
              go_roundw
              case rel => exact ⟨d + 1, by go_num, by omega, by rw [HN2.out], ⟨pw_below_drewN hw2.out _⟩, hrow2⟩
              case measure => simp [intOf]; omega
          · obtain rfl : d = 14 := by omega
            have he := HA.out
            unfold busyB at he
            rw [HBb.out] at he
            by_cases hz : dayB l0 b l0.length = 0
            · rw [if_pos hz] at he
              have HE := Aside0.mk he
              clear he
              rw [hz] at y2
              clear hz
              go_wp2
              go_ret3
              have := HE.out
              simp only [Prod.mk.injEq] at this
              obtain ⟨rfl, rfl, rfl⟩ := this
              exact ⟨rfl, hw2.out⟩
            · rw [if_neg hz] at he
              have HE := Aside0.mk he
              clear he
              generalize hsv : dayB l0 b l0.length = sv at y2 HE hz
              have HSV := Aside0.mk hsv
              clear hsv
              have e1 : (sv == 0) = false := by simpa using hz
              go_wp2
              go_quiet (fail)
              go_wp2
              go_ret3
              have := HE.out
              simp only [Prod.mk.injEq] at this
              obtain ⟨rfl, rfl, rfl⟩ := this
              exact ⟨rfl, pw_below_drewN hw2.out _⟩
end


-- NOT PRINTED: function 47 (strconv_small)

-- NOT PRINTED: function 53 (strconv_log10Pow2)

-- NOT PRINTED: function 54 (bits_Len64)

-- NOT PRINTED: function 55 (strconv_bool2_int)

-- NOT PRINTED: function 48 (strconv_numDigits)

-- NOT PRINTED: function 49 (strconv_formatBase10)

-- NOT PRINTED: function 56 (strconv_isPowerOfTwo)

-- NOT PRINTED: function 58 (bits_TrailingZeros32)

-- NOT PRINTED: function 59 (bits_TrailingZeros64)

-- NOT PRINTED: function 57 (bits_TrailingZeros)

-- NOT PRINTED: function 50 (strconv_formatBits)

-- NOT PRINTED: function 41 (strconv_FormatInt_41)

/-! ### strconv_FormatInt: function 34, by hand -/
section
open Go.Proofs.YtdamlohbplfdgaaDoor.Base
def strconv_FormatInt.f (a0 : Int) (a1 : Int) : Option ByteArray := if a1 = 10 ∧ -9223372036854775808 ≤ a0 ∧ a0 ≤ 9223372036854775807 then some ⟨(Lib.itoa a0).toArray⟩ else none
theorem strconv_FormatInt.calls (a0 : Int) (a1 : Int) (r : ByteArray) (w : World) (h : strconv_FormatInt.f a0 a1 = some r) (hT : Go.Proofs.YtdamlohbplfdgaaDoor.Base.Tb2 w) :
    Calls Tryd.prog 34 #[.int .i64 a0, .int .i64 a1] w fun e w' => e = .returned (.string r) ∧ Below w.heap.size w w' := by
  unfold strconv_FormatInt.f at h
  split at h
  · rename_i hc
    obtain ⟨rfl, h0, h1⟩ := hc
    obtain rfl := Option.some.inj h
    refine (Tryd.strconv_FormatInt_10 a0 h0 h1 w hT.tab).mono fun e w' ⟨he, k, os, hw⟩ => ⟨he, ?_⟩
    rw [hw]
    exact Lib.below_grow _ w (Nat.le_refl _) k os
  · cases h
end


/-! ### impl_Decimal: function 25 -/
def impl_Decimal.f (a0 : Int) : Option (ByteArray) := (strconv_FormatInt.f a0 10).bind fun t199 => (some t199)
set_option maxHeartbeats 8000000 in
set_option maxRecDepth 100000 in
theorem impl_Decimal.calls (a0 : Int) (r : ByteArray) (w : World) (h : impl_Decimal.f a0 = some r) (hT : Go.Proofs.YtdamlohbplfdgaaDoor.Base.Tb2 w) :
    Calls Tryd.prog 25 #[.int .i64 a0] w fun e w' => e = .returned (.string r) ∧ Below w.heap.size w w' := by
  have HTB := Aside0.mk hT
  clear hT
  have HB := Aside0.mk (Below.refl w.heap.size w)
  have H : ((strconv_FormatInt.f a0 10).bind fun t199 => (some t199)) = some r := h
  clear h
  replace H := Option.bind_eq_some_iff.mp H
  obtain ⟨t199, A20, H⟩ := H
  replace H : (some t199) = some r := H
  have A2 := Aside0.mk A20
  clear A20
  obtain rfl := Option.some.inj H
  go_enter Tryd.func25, Tryd.ntmps25
  go_wp2_with (first | ((with_reducible refine gate_callee (f := 34) rfl ?_); refine goesL_ (some 4) rfl rfl Tryd.func34 (by kernel_rfl) rfl #[.int .i64 a0, .int .i64 10] rfl (by (try simp only [List.map_toArray, List.map_cons, List.map_nil]); first | done | rfl | (simp only [List.length_drop, List.length_take]; rfl) | (simp only [ByteArray.size_append, Int.natCast_add]; rfl)) ?_; (with_reducible refine (strconv_FormatInt.calls a0 10 t199 _ A2.out ?side1).mono ?_); (case side1 => exact HTB.out.below (by repeat (first | (with_reducible first | exact HB.out | apply below_alloc | apply pw_below_drewN | apply below_drew1) | exact HB.out))); rintro e w3 ⟨rfl, hb⟩; refine ⟨_, rfl, ?_⟩; have n0_ := Aside0.mk (below_step (by repeat (first | (with_reducible first | exact HB.out | apply below_alloc | apply pw_below_drewN | apply below_drew1) | exact HB.out)) hb); clear HB; have HB := n0_; clear n0_; (try clear hb); (try clear hb2); (try clear hk); (try clear hi)))
  go_ret
  exact ⟨by first | rfl | (simp [errW_none, errW_some] <;> rfl) | (simp [*, errW_none, errW_some] <;> rfl), by repeat (first | (with_reducible first | exact HB.out | apply below_alloc | apply pw_below_drewN | apply below_drew1) | exact HB.out)⟩

/-! ### impl_twoDigits: function 26 -/
def impl_twoDigits.f (a0 : Int) : Option (ByteArray) := (impl_Decimal.f (wrap64 (Int.tdiv a0 10))).bind fun t200 => ((impl_Decimal.f (Int.tmod a0 10)).bind fun t201 => (if t200.size + t201.size ≤ 9223372036854775807 then (some (t200 ++ t201)) else (none)))
set_option maxHeartbeats 8000000 in
set_option maxRecDepth 100000 in
theorem impl_twoDigits.calls (a0 : Int) (r : ByteArray) (w : World) (h : impl_twoDigits.f a0 = some r) (hT : Go.Proofs.YtdamlohbplfdgaaDoor.Base.Tb2 w) :
    Calls Tryd.prog 26 #[.int .i64 a0] w fun e w' => e = .returned (.string r) ∧ Below w.heap.size w w' := by
  have HTB := Aside0.mk hT
  clear hT
  have HB := Aside0.mk (Below.refl w.heap.size w)
  have H : ((impl_Decimal.f (wrap64 (Int.tdiv a0 10))).bind fun t200 => ((impl_Decimal.f (Int.tmod a0 10)).bind fun t201 => (if t200.size + t201.size ≤ 9223372036854775807 then (some (t200 ++ t201)) else (none)))) = some r := h
  clear h
  replace H := Option.bind_eq_some_iff.mp H
  obtain ⟨t200, A20, H⟩ := H
  replace H : ((impl_Decimal.f (Int.tmod a0 10)).bind fun t201 => (if t200.size + t201.size ≤ 9223372036854775807 then (some (t200 ++ t201)) else (none))) = some r := H
  have A2 := Aside0.mk A20
  clear A20
  replace H := Option.bind_eq_some_iff.mp H
  obtain ⟨t201, A30, H⟩ := H
  replace H : (if t200.size + t201.size ≤ 9223372036854775807 then (some (t200 ++ t201)) else (none)) = some r := H
  have A3 := Aside0.mk A30
  clear A30
  by_cases c4 : t200.size + t201.size ≤ 9223372036854775807
  · rw [if_pos c4] at H
    have c4b0 := eq_true c4
    have c4b1 : decide (t200.size + t201.size ≤ 9223372036854775807) = true := decide_eq_true c4
    try have c4b2 : (9223372036854775807 < t200.size + t201.size) = False := eq_false (Nat.not_lt.2 c4)
    obtain rfl := Option.some.inj H
    go_enter Tryd.func26, Tryd.ntmps26
    go_wp2_with (first | ((with_reducible refine gate_callee (f := 25) rfl ?_); refine goesL_ (some 5) rfl rfl Tryd.func25 (by kernel_rfl) rfl #[.int .i64 (wrap64 (Int.tdiv a0 10))] rfl (by (try simp only [List.map_toArray, List.map_cons, List.map_nil]); first | done | rfl | (simp only [List.length_drop, List.length_take]; rfl) | (simp only [ByteArray.size_append, Int.natCast_add]; rfl)) ?_; (with_reducible refine (impl_Decimal.calls (wrap64 (Int.tdiv a0 10)) t200 _ A2.out ?side1).mono ?_); (case side1 => exact HTB.out.below (by repeat (first | (with_reducible first | exact HB.out | apply below_alloc | apply pw_below_drewN | apply below_drew1) | exact HB.out))); rintro e w5 ⟨rfl, hb⟩; refine ⟨_, rfl, ?_⟩; have n0_ := Aside0.mk (below_step (by repeat (first | (with_reducible first | exact HB.out | apply below_alloc | apply pw_below_drewN | apply below_drew1) | exact HB.out)) hb); clear HB; have HB := n0_; clear n0_; (try clear hb); (try clear hb2); (try clear hk); (try clear hi)) | ((with_reducible refine gate_callee (f := 25) rfl ?_); refine goesL_ (some 8) rfl rfl Tryd.func25 (by kernel_rfl) rfl #[.int .i64 (Int.tmod a0 10)] rfl (by (try simp only [List.map_toArray, List.map_cons, List.map_nil]); first | done | rfl | (simp only [List.length_drop, List.length_take]; rfl) | (simp only [ByteArray.size_append, Int.natCast_add]; rfl)) ?_; (with_reducible refine (impl_Decimal.calls (Int.tmod a0 10) t201 _ A3.out ?side1).mono ?_); (case side1 => exact HTB.out.below (by repeat (first | (with_reducible first | exact HB.out | apply below_alloc | apply pw_below_drewN | apply below_drew1) | exact HB.out))); rintro e w6 ⟨rfl, hb⟩; refine ⟨_, rfl, ?_⟩; have n0_ := Aside0.mk (below_step (by repeat (first | (with_reducible first | exact HB.out | apply below_alloc | apply pw_below_drewN | apply below_drew1) | exact HB.out)) hb); clear HB; have HB := n0_; clear n0_; (try clear hb); (try clear hb2); (try clear hk); (try clear hi)))
    go_ret
    exact ⟨by first | rfl | (simp [errW_none, errW_some] <;> rfl) | (simp [*, errW_none, errW_some] <;> rfl), by repeat (first | (with_reducible first | exact HB.out | apply below_alloc | apply pw_below_drewN | apply below_drew1) | exact HB.out)⟩
  · rw [if_neg c4] at H
    exact absurd H (by simp)

/-! ### impl_ClockText: function 14 -/
def impl_ClockText.f (a0 : Int) : Option (ByteArray) := (impl_within.f a0 0 20000).bind fun t202 => (if t202 = true then ((impl_Decimal.f (wrap64 (Int.tdiv a0 60))).bind fun t203 => (if t203.size + 1 ≤ 9223372036854775807 then ((impl_twoDigits.f (Int.tmod a0 60)).bind fun t204 => (if (t203 ++ (⟨#[58]⟩ : ByteArray)).size + t204.size ≤ 9223372036854775807 then (some ((t203 ++ (⟨#[58]⟩ : ByteArray)) ++ t204)) else (none))) else (none))) else (some (⟨#[]⟩ : ByteArray)))
set_option maxHeartbeats 8000000 in
set_option maxRecDepth 100000 in
theorem impl_ClockText.calls (a0 : Int) (r : ByteArray) (w : World) (h : impl_ClockText.f a0 = some r) (hT : Go.Proofs.YtdamlohbplfdgaaDoor.Base.Tb2 w) :
    Calls Tryd.prog 14 #[.int .i64 a0] w fun e w' => e = .returned (.string r) ∧ Below w.heap.size w w' := by
  have HTB := Aside0.mk hT
  clear hT
  have HB := Aside0.mk (Below.refl w.heap.size w)
  have H : ((impl_within.f a0 0 20000).bind fun t202 => (if t202 = true then ((impl_Decimal.f (wrap64 (Int.tdiv a0 60))).bind fun t203 => (if t203.size + 1 ≤ 9223372036854775807 then ((impl_twoDigits.f (Int.tmod a0 60)).bind fun t204 => (if (t203 ++ (⟨#[58]⟩ : ByteArray)).size + t204.size ≤ 9223372036854775807 then (some ((t203 ++ (⟨#[58]⟩ : ByteArray)) ++ t204)) else (none))) else (none))) else (some (⟨#[]⟩ : ByteArray)))) = some r := h
  clear h
  replace H := Option.bind_eq_some_iff.mp H
  obtain ⟨t202, A20, H⟩ := H
  replace H : (if t202 = true then ((impl_Decimal.f (wrap64 (Int.tdiv a0 60))).bind fun t203 => (if t203.size + 1 ≤ 9223372036854775807 then ((impl_twoDigits.f (Int.tmod a0 60)).bind fun t204 => (if (t203 ++ (⟨#[58]⟩ : ByteArray)).size + t204.size ≤ 9223372036854775807 then (some ((t203 ++ (⟨#[58]⟩ : ByteArray)) ++ t204)) else (none))) else (none))) else (some (⟨#[]⟩ : ByteArray))) = some r := H
  have A2 := Aside0.mk A20
  clear A20
  by_cases c3 : t202 = true
  · subst c3
    have H1 : ((impl_Decimal.f (wrap64 (Int.tdiv a0 60))).bind fun t203 => (if t203.size + 1 ≤ 9223372036854775807 then ((impl_twoDigits.f (Int.tmod a0 60)).bind fun t204 => (if (t203 ++ (⟨#[58]⟩ : ByteArray)).size + t204.size ≤ 9223372036854775807 then (some ((t203 ++ (⟨#[58]⟩ : ByteArray)) ++ t204)) else (none))) else (none))) = some r := by rw [if_pos rfl] at H; exact H
    clear H
    have H := H1
    clear H1
    replace H := Option.bind_eq_some_iff.mp H
    obtain ⟨t203, A40, H⟩ := H
    replace H : (if t203.size + 1 ≤ 9223372036854775807 then ((impl_twoDigits.f (Int.tmod a0 60)).bind fun t204 => (if (t203 ++ (⟨#[58]⟩ : ByteArray)).size + t204.size ≤ 9223372036854775807 then (some ((t203 ++ (⟨#[58]⟩ : ByteArray)) ++ t204)) else (none))) else (none)) = some r := H
    have A4 := Aside0.mk A40
    clear A40
    by_cases c5 : t203.size + 1 ≤ 9223372036854775807
    · rw [if_pos c5] at H
      have c5b0 := eq_true c5
      have c5b1 : decide (t203.size + 1 ≤ 9223372036854775807) = true := decide_eq_true c5
      try have c5b2 : (9223372036854775807 < t203.size + 1) = False := eq_false (Nat.not_lt.2 c5)
      replace H := Option.bind_eq_some_iff.mp H
      obtain ⟨t204, A60, H⟩ := H
      replace H : (if (t203 ++ (⟨#[58]⟩ : ByteArray)).size + t204.size ≤ 9223372036854775807 then (some ((t203 ++ (⟨#[58]⟩ : ByteArray)) ++ t204)) else (none)) = some r := H
      have A6 := Aside0.mk A60
      clear A60
      by_cases c7 : (t203 ++ (⟨#[58]⟩ : ByteArray)).size + t204.size ≤ 9223372036854775807
      · rw [if_pos c7] at H
        have c7b0 := eq_true c7
        have c7b1 : decide ((t203 ++ (⟨#[58]⟩ : ByteArray)).size + t204.size ≤ 9223372036854775807) = true := decide_eq_true c7
        try have c7b2 : (9223372036854775807 < (t203 ++ (⟨#[58]⟩ : ByteArray)).size + t204.size) = False := eq_false (Nat.not_lt.2 c7)
        try (have c7b3 := c7b2; simp only [ByteArray.size_append, show (⟨#[58]⟩ : ByteArray).size = 1 from rfl] at c7b3)
        obtain rfl := Option.some.inj H
        go_enter Tryd.func14, Tryd.ntmps14
        go_wp2_with (first | ((with_reducible refine gate_callee (f := 18) rfl ?_); refine goesL_ (some 4) rfl rfl Tryd.func18 (by kernel_rfl) rfl #[.int .i64 a0, .int .i64 0, .int .i64 20000] rfl (by (try simp only [List.map_toArray, List.map_cons, List.map_nil]); first | done | rfl | (simp only [List.length_drop, List.length_take]; rfl) | (simp only [ByteArray.size_append, Int.natCast_add]; rfl)) ?_; (with_reducible refine (impl_within.calls a0 0 20000 true _ A2.out).mono ?_); rintro e w' ⟨rfl, ⟨nd, rfl⟩⟩; refine ⟨_, rfl, ?_⟩) | ((with_reducible refine gate_callee (f := 25) rfl ?_); refine goesL_ (some 8) rfl rfl Tryd.func25 (by kernel_rfl) rfl #[.int .i64 (wrap64 (Int.tdiv a0 60))] rfl (by (try simp only [List.map_toArray, List.map_cons, List.map_nil]); first | done | rfl | (simp only [List.length_drop, List.length_take]; rfl) | (simp only [ByteArray.size_append, Int.natCast_add]; rfl)) ?_; (with_reducible refine (impl_Decimal.calls (wrap64 (Int.tdiv a0 60)) t203 _ A4.out ?side1).mono ?_); (case side1 => exact HTB.out.below (by repeat (first | (with_reducible first | exact HB.out | apply below_alloc | apply pw_below_drewN | apply below_drew1) | exact HB.out))); rintro e w8 ⟨rfl, hb⟩; refine ⟨_, rfl, ?_⟩; have n0_ := Aside0.mk (below_step (by repeat (first | (with_reducible first | exact HB.out | apply below_alloc | apply pw_below_drewN | apply below_drew1) | exact HB.out)) hb); clear HB; have HB := n0_; clear n0_; (try clear hb); (try clear hb2); (try clear hk); (try clear hi)) | ((with_reducible refine gate_callee (f := 26) rfl ?_); refine goesL_ (some 12) rfl rfl Tryd.func26 (by kernel_rfl) rfl #[.int .i64 (Int.tmod a0 60)] rfl (by (try simp only [List.map_toArray, List.map_cons, List.map_nil]); first | done | rfl | (simp only [List.length_drop, List.length_take]; rfl) | (simp only [ByteArray.size_append, Int.natCast_add]; rfl)) ?_; (with_reducible refine (impl_twoDigits.calls (Int.tmod a0 60) t204 _ A6.out ?side1).mono ?_); (case side1 => exact HTB.out.below (by repeat (first | (with_reducible first | exact HB.out | apply below_alloc | apply pw_below_drewN | apply below_drew1) | exact HB.out))); rintro e w9 ⟨rfl, hb⟩; refine ⟨_, rfl, ?_⟩; have n0_ := Aside0.mk (below_step (by repeat (first | (with_reducible first | exact HB.out | apply below_alloc | apply pw_below_drewN | apply below_drew1) | exact HB.out)) hb); clear HB; have HB := n0_; clear n0_; (try clear hb); (try clear hb2); (try clear hk); (try clear hi)))
        go_ret
        exact ⟨by first | rfl | (simp [errW_none, errW_some] <;> rfl) | (simp [*, errW_none, errW_some] <;> rfl), by repeat (first | (with_reducible first | exact HB.out | apply below_alloc | apply pw_below_drewN | apply below_drew1) | exact HB.out)⟩
      · rw [if_neg c7] at H
        exact absurd H (by simp)
    · rw [if_neg c5] at H
      exact absurd H (by simp)
  · replace c3 := Bool.eq_false_iff.mpr c3
    subst c3
    have H1 : (some (⟨#[]⟩ : ByteArray)) = some r := by rw [if_neg (show ¬ (false = true) by decide)] at H; exact H
    clear H
    have H := H1
    clear H1
    obtain rfl := Option.some.inj H
    go_enter Tryd.func14, Tryd.ntmps14
    go_wp2_with (first | ((with_reducible refine gate_callee (f := 18) rfl ?_); refine goesL_ (some 4) rfl rfl Tryd.func18 (by kernel_rfl) rfl #[.int .i64 a0, .int .i64 0, .int .i64 20000] rfl (by (try simp only [List.map_toArray, List.map_cons, List.map_nil]); first | done | rfl | (simp only [List.length_drop, List.length_take]; rfl) | (simp only [ByteArray.size_append, Int.natCast_add]; rfl)) ?_; (with_reducible refine (impl_within.calls a0 0 20000 false _ A2.out).mono ?_); rintro e w' ⟨rfl, ⟨nd, rfl⟩⟩; refine ⟨_, rfl, ?_⟩))
    go_ret
    exact ⟨by first | rfl | (simp [errW_none, errW_some] <;> rfl) | (simp [*, errW_none, errW_some] <;> rfl), by repeat (first | (with_reducible first | exact HB.out | apply below_alloc | apply pw_below_drewN | apply below_drew1) | exact HB.out)⟩

-- NOT PRINTED: function 51 (bytealg_IndexByteString)

-- NOT PRINTED: function 42 (stringslite_IndexByte)

-- NOT PRINTED: function 43 (bytealg_IndexString)

-- NOT PRINTED: function 44 (bytealg_Cutover)

-- NOT PRINTED: function 52 (bytealg_hashStr_string)

-- NOT PRINTED: function 45 (bytealg_IndexRabinKarp_string)

-- NOT PRINTED: function 39 (stringslite_Index)

-- NOT PRINTED: function 32 (stringslite_Cut)

/-! ### strings_Cut: function 23, by hand -/
section
open Go.Proofs.YtdamlohbplfdgaaDoor.Base
def strings_Cut.f (a0 : ByteArray) (a1 : ByteArray) : Option (ByteArray × ByteArray × Bool) := if a0.size < 4294967281 then some (⟨(Lib.cut a0.data.toList a1.data.toList).1.toArray⟩, ⟨(Lib.cut a0.data.toList a1.data.toList).2.1.toArray⟩, (Lib.cut a0.data.toList a1.data.toList).2.2) else none
theorem strings_Cut.calls (a0 : ByteArray) (a1 : ByteArray) (r1 : ByteArray) (r2 : ByteArray) (r3 : Bool) (w : World) (h : strings_Cut.f a0 a1 = some (r1, r2, r3)) (hT : Go.Proofs.YtdamlohbplfdgaaDoor.Base.Tb2 w) :
    Calls Tryd.prog 23 #[.string a0, .string a1] w fun e w' => e = .returned (.tuple #[.string r1, .string r2, .bool r3]) ∧ Below w.heap.size w w' := by
  unfold strings_Cut.f at h
  split at h
  · rename_i hc
    simp only [Option.some.injEq, Prod.mk.injEq] at h
    obtain ⟨rfl, rfl, rfl⟩ := h
    obtain ⟨m, hm⟩ := hT.max
    refine (Tryd.strings_Cut a0 a1 m w hc hm).mono fun e w' ⟨he, n, hw⟩ => ⟨he, ?_⟩
    rw [hw]
    exact pw_below_drewN (Below.refl _ _) n
  · cases h
end


/-! ### stringslite_HasPrefix: function 46 -/
def stringslite_HasPrefix.f (a0 : ByteArray) (a1 : ByteArray) : Option (Bool) := if (a0.size : Int) ≥ (a1.size : Int) then (if 0 ≤ (a1.size : Int) then (if (a1.size : Int) ≤ (a0.size : Int) then (some ((a0.extract 0 ((a1.size : Int) : Int).toNat).toList == a1.toList)) else (none)) else (none)) else (some false)
set_option maxHeartbeats 8000000 in
set_option maxRecDepth 100000 in
theorem stringslite_HasPrefix.calls (a0 : ByteArray) (a1 : ByteArray) (r : Bool) (w : World) (h : stringslite_HasPrefix.f a0 a1 = some r) :
    Calls Tryd.prog 46 #[.string a0, .string a1] w fun e w' => e = .returned (.bool r) ∧ Drawn0 w w' := by
  have H : (if (a0.size : Int) ≥ (a1.size : Int) then (if 0 ≤ (a1.size : Int) then (if (a1.size : Int) ≤ (a0.size : Int) then (some ((a0.extract 0 ((a1.size : Int) : Int).toNat).toList == a1.toList)) else (none)) else (none)) else (some false)) = some r := h
  clear h
  by_cases c3 : (a0.size : Int) ≥ (a1.size : Int)
  · rw [if_pos c3] at H
    have c3b0 : decide ((a1.size : Int) ≤ (a0.size : Int)) = true := decide_eq_true c3
    have c3b1 : decide (a1.size ≤ a0.size) = true := decide_eq_true (Int.ofNat_le.mp c3)
    clear c3
    by_cases c4 : 0 ≤ (a1.size : Int)
    · rw [if_pos c4] at H
      have c4b0 := eq_true c4
      have c4b1 : decide (0 ≤ (a1.size : Int)) = true := decide_eq_true c4
      clear c4
      by_cases c5 : (a1.size : Int) ≤ (a0.size : Int)
      · rw [if_pos c5] at H
        have c5b0 := eq_true c5
        have c5b1 : decide ((a1.size : Int) ≤ (a0.size : Int)) = true := decide_eq_true c5
        clear c5
        obtain rfl := Option.some.inj H
        go_enter Tryd.func46, Tryd.ntmps46
        go_wp2
        go_ret
        exact ⟨by first | rfl | (simp; done) | (simp [*]; done), by repeat (first | exact Drawn0.refl _ | apply Drawn0.step)⟩
      · rw [if_neg c5] at H
        exact absurd H (by simp)
    · rw [if_neg c4] at H
      exact absurd H (by simp)
  · rw [if_neg c3] at H
    have c3b0 : decide ((a1.size : Int) ≤ (a0.size : Int)) = false := decide_eq_false c3
    have c3b1 : decide (a1.size ≤ a0.size) = false := decide_eq_false (fun h => c3 (Int.ofNat_le.mpr h))
    clear c3
    obtain rfl := Option.some.inj H
    go_enter Tryd.func46, Tryd.ntmps46
    go_wp2
    go_ret
    exact ⟨by first | rfl | (simp; done) | (simp [*]; done), by repeat (first | exact Drawn0.refl _ | apply Drawn0.step)⟩

/-! ### stringslite_TrimPrefix: function 40 -/
def stringslite_TrimPrefix.f (a0 : ByteArray) (a1 : ByteArray) : Option (ByteArray) := (stringslite_HasPrefix.f a0 a1).bind fun t205 => (if t205 = true then (if 0 ≤ (a1.size : Int) then (if (a1.size : Int) ≤ (a0.size : Int) then (some (a0.extract ((a1.size : Int) : Int).toNat a0.size)) else (none)) else (none)) else (some a0))
set_option maxHeartbeats 8000000 in
set_option maxRecDepth 100000 in
theorem stringslite_TrimPrefix.calls (a0 : ByteArray) (a1 : ByteArray) (r : ByteArray) (w : World) (h : stringslite_TrimPrefix.f a0 a1 = some r) :
    Calls Tryd.prog 40 #[.string a0, .string a1] w fun e w' => e = .returned (.string r) ∧ Drawn0 w w' := by
  have H : ((stringslite_HasPrefix.f a0 a1).bind fun t205 => (if t205 = true then (if 0 ≤ (a1.size : Int) then (if (a1.size : Int) ≤ (a0.size : Int) then (some (a0.extract ((a1.size : Int) : Int).toNat a0.size)) else (none)) else (none)) else (some a0))) = some r := h
  clear h
  replace H := Option.bind_eq_some_iff.mp H
  obtain ⟨t205, A30, H⟩ := H
  replace H : (if t205 = true then (if 0 ≤ (a1.size : Int) then (if (a1.size : Int) ≤ (a0.size : Int) then (some (a0.extract ((a1.size : Int) : Int).toNat a0.size)) else (none)) else (none)) else (some a0)) = some r := H
  have A3 := Aside0.mk A30
  clear A30
  by_cases c4 : t205 = true
  · subst c4
    have H1 : (if 0 ≤ (a1.size : Int) then (if (a1.size : Int) ≤ (a0.size : Int) then (some (a0.extract ((a1.size : Int) : Int).toNat a0.size)) else (none)) else (none)) = some r := by rw [if_pos rfl] at H; exact H
    clear H
    have H := H1
    clear H1
    by_cases c5 : 0 ≤ (a1.size : Int)
    · rw [if_pos c5] at H
      have c5b0 := eq_true c5
      have c5b1 : decide (0 ≤ (a1.size : Int)) = true := decide_eq_true c5
      clear c5
      by_cases c6 : (a1.size : Int) ≤ (a0.size : Int)
      · rw [if_pos c6] at H
        have c6b0 := eq_true c6
        have c6b1 : decide ((a1.size : Int) ≤ (a0.size : Int)) = true := decide_eq_true c6
        clear c6
        obtain rfl := Option.some.inj H
        go_enter Tryd.func40, Tryd.ntmps40
        go_wp2_with (first | ((with_reducible refine gate_callee (f := 46) rfl ?_); refine goesL_ (some 7) rfl rfl Tryd.func46 (by kernel_rfl) rfl #[.string a0, .string a1] rfl (by (try simp only [List.map_toArray, List.map_cons, List.map_nil]); first | done | rfl | (simp only [List.length_drop, List.length_take]; rfl) | (simp only [ByteArray.size_append, Int.natCast_add]; rfl)) ?_; (with_reducible refine (stringslite_HasPrefix.calls a0 a1 true _ A3.out).mono ?_); rintro e w' ⟨rfl, ⟨nd, rfl⟩⟩; refine ⟨_, rfl, ?_⟩))
        go_ret
        exact ⟨by first | rfl | (simp; done) | (simp [*]; done), by repeat (first | exact Drawn0.refl _ | apply Drawn0.step)⟩
      · rw [if_neg c6] at H
        exact absurd H (by simp)
    · rw [if_neg c5] at H
      exact absurd H (by simp)
  · replace c4 := Bool.eq_false_iff.mpr c4
    subst c4
    have H1 : (some a0) = some r := by rw [if_neg (show ¬ (false = true) by decide)] at H; exact H
    clear H
    have H := H1
    clear H1
    obtain rfl := Option.some.inj H
    go_enter Tryd.func40, Tryd.ntmps40
    go_wp2_with (first | ((with_reducible refine gate_callee (f := 46) rfl ?_); refine goesL_ (some 7) rfl rfl Tryd.func46 (by kernel_rfl) rfl #[.string a0, .string a1] rfl (by (try simp only [List.map_toArray, List.map_cons, List.map_nil]); first | done | rfl | (simp only [List.length_drop, List.length_take]; rfl) | (simp only [ByteArray.size_append, Int.natCast_add]; rfl)) ?_; (with_reducible refine (stringslite_HasPrefix.calls a0 a1 false _ A3.out).mono ?_); rintro e w' ⟨rfl, ⟨nd, rfl⟩⟩; refine ⟨_, rfl, ?_⟩))
    go_ret
    exact ⟨by first | rfl | (simp; done) | (simp [*]; done), by repeat (first | exact Drawn0.refl _ | apply Drawn0.step)⟩

/-! ### strings_TrimPrefix: function 33 -/
def strings_TrimPrefix.f (a0 : ByteArray) (a1 : ByteArray) : Option (ByteArray) := (stringslite_TrimPrefix.f a0 a1).bind fun t206 => (some t206)
set_option maxHeartbeats 8000000 in
set_option maxRecDepth 100000 in
theorem strings_TrimPrefix.calls (a0 : ByteArray) (a1 : ByteArray) (r : ByteArray) (w : World) (h : strings_TrimPrefix.f a0 a1 = some r) :
    Calls Tryd.prog 33 #[.string a0, .string a1] w fun e w' => e = .returned (.string r) ∧ Drawn0 w w' := by
  have H : ((stringslite_TrimPrefix.f a0 a1).bind fun t206 => (some t206)) = some r := h
  clear h
  replace H := Option.bind_eq_some_iff.mp H
  obtain ⟨t206, A30, H⟩ := H
  replace H : (some t206) = some r := H
  have A3 := Aside0.mk A30
  clear A30
  obtain rfl := Option.some.inj H
  go_enter Tryd.func33, Tryd.ntmps33
  go_wp2_with (first | ((with_reducible refine gate_callee (f := 40) rfl ?_); refine goesL_ (some 7) rfl rfl Tryd.func40 (by kernel_rfl) rfl #[.string a0, .string a1] rfl (by (try simp only [List.map_toArray, List.map_cons, List.map_nil]); first | done | rfl | (simp only [List.length_drop, List.length_take]; rfl) | (simp only [ByteArray.size_append, Int.natCast_add]; rfl)) ?_; (with_reducible refine (stringslite_TrimPrefix.calls a0 a1 t206 _ A3.out).mono ?_); rintro e w' ⟨rfl, ⟨nd, rfl⟩⟩; refine ⟨_, rfl, ?_⟩))
  go_ret
  exact ⟨by first | rfl | (simp; done) | (simp [*]; done), by repeat (first | exact Drawn0.refl _ | apply Drawn0.step)⟩

end Go.Proofs.YtdamlohbplfdgaaDoor.QFnCheapHands
