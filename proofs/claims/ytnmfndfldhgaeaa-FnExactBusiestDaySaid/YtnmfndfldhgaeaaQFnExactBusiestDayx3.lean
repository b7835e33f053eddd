/- Functions and contracts of one law, printed by this session's own program (contracts by hand among them). -/
import Derived.Test.YtnmfndfldhgaeaaQFnExactBusiestDayx0
import Derived.Test.YtnmfndfldhgaeaaQFnExactBusiestDayx2
namespace Go.Proofs.Ytnmfndfldhgaeaa.QFnExactBusiestDay
open Go.RowKit Go.Proofs.YtnmfndfldhgaeaaW.PrintWords Go.Proofs.YtnmfndfldhgaeaaW.PrintLast Go.Proofs.YtnmfndfldhgaeaaW.PrintMore
attribute [local go_sem] max2_int min2_int max_two min_two max_three min_three max_four min_four   -- for this text's walks alone
set_option linter.unusedVariables false
set_option linter.unusedSimpArgs false

/-- A state of type 28 at block g of W; what its slices lead to came in by w0. -/
def IsS28 (w0 W : World) (g : Nat) (f0 : ByteArray) (f1 : List Int) (f2 : Int) : Prop := ∃ A1 c1, W.heap[g]? = some (.cells #[.string f0, .slice A1 f1.length c1, .int .i64 f2] 28 (0, 0)) ∧ w0.heap.size ≤ g ∧ Kd.C (Kd.int .i64) w0 A1 f1.length f1
theorem IsS28.grown {w0 W : World} {g : Nat} {f0 : ByteArray} {f1 : List Int} {f2 : Int} {W1 : World} {row : Option Nat} (h : IsS28 w0 W g f0 f1 f2) (hw : W.grownBy W1 row) (hne : some g ≠ row) : IsS28 w0 W1 g f0 f1 f2 := by
  obtain ⟨A1, c1, hb, hg, hr1⟩ := h
  exact ⟨A1, c1, blk_grown hb hw hne, hg, hr1⟩
theorem IsS28.own_neN {w0 W : World} {g : Nat} {f0 : ByteArray} {f1 : List Int} {f2 : Int} {α : Type} {d : Kd α} {e : Nat} {base : Nat} {ok : Nat → Prop} {v : Value} {xs : List α} (h : IsS28 w0 W g f0 f1 f2) (ho : Kd.N d e W base ok v xs) (ht : e ≠ 28) : some g ≠ v.ownBlock := by
  obtain ⟨A1, c1, hb, hg, hr1⟩ := h
  exact Kd.N_ne ho hb ht
theorem IsS28.fresh {w0 W : World} {g : Nat} {f0 : ByteArray} {f1 : List Int} {f2 : Int} (h : IsS28 w0 W g f0 f1 f2) : ∀ k, W.heap.size ≤ k → k ≠ g := by
  obtain ⟨A1, c1, hb, hg, hr1⟩ := h
  exact Kd.freshB hb
theorem IsS28.kept {w0 W : World} {g : Nat} {f0 : ByteArray} {f1 : List Int} {f2 : Int} {W1 : World} {S : Nat → Prop} (h : IsS28 w0 W g f0 f1 f2) (hk : Kept W W1 S) (hne : ¬ S g) : IsS28 w0 W1 g f0 f1 f2 := by
  obtain ⟨A1, c1, hb, hg, hr1⟩ := h
  exact ⟨A1, c1, blk_kept hb hk hne, hg, hr1⟩
theorem IsS28.below {w0 W : World} {g : Nat} {f0 : ByteArray} {f1 : List Int} {f2 : Int} {W1 : World} (h : IsS28 w0 W g f0 f1 f2) (hw : Below W.heap.size W W1) : IsS28 w0 W1 g f0 f1 f2 := h.grown (grown_of_below hw none) (by simp)
theorem IsS28.alloc {w0 W : World} {g : Nat} {f0 : ByteArray} {f1 : List Int} {f2 : Int} (h : IsS28 w0 W g f0 f1 f2) (o : Obj) : IsS28 w0 (W.alloc o) g f0 f1 f2 := h.below (below_alloc (Below.refl _ _) o)
theorem IsS28.drewN {w0 W : World} {g : Nat} {f0 : ByteArray} {f1 : List Int} {f2 : Int} (h : IsS28 w0 W g f0 f1 f2) (m : Nat) : IsS28 w0 (W.drewN m) g f0 f1 f2 := h
theorem IsS28.drew {w0 W : World} {g : Nat} {f0 : ByteArray} {f1 : List Int} {f2 : Int} (h : IsS28 w0 W g f0 f1 f2) : IsS28 w0 W.drew g f0 f1 f2 := h
theorem IsS28.at_ {w0 W : World} {g : Nat} {f0 : ByteArray} {f1 : List Int} {f2 : Int} {w' : World} {m : Nat} (hq : W.drewN m = w') (h : IsS28 w0 W g f0 f1 f2) : IsS28 w0 w' g f0 f1 f2 := by subst hq; exact IsS28.drewN h m
theorem IsS28.apart {w0 W : World} {g : Nat} {f0 : ByteArray} {f1 : List Int} {f2 : Int} {α : Type} {d : Kd α} {e : Nat} {base : Nat} {ok : Nat → Prop} {v : Value} {xs : List α} (h : IsS28 w0 W g f0 f1 f2) (ho : d.R e W base ok v xs) (ht : ∀ q, q ∈ e :: d.E → q ≠ 28) : d.R e W base (fun k => ok k ∧ k ≠ g) v xs := by
  obtain ⟨A1, c1, hb, hg, hr1⟩ := h
  exact Kd.R_types ho hb ht
theorem IsS28.own_ne {w0 W : World} {g : Nat} {f0 : ByteArray} {f1 : List Int} {f2 : Int} {α : Type} {d : Kd α} {e : Nat} {base : Nat} {ok : Nat → Prop} {v : Value} {xs : List α} (h : IsS28 w0 W g f0 f1 f2) (ho : d.R e W base ok v xs) (ht : e ≠ 28) : some g ≠ v.ownBlock := by
  obtain ⟨A1, c1, hb, hg, hr1⟩ := h
  exact Kd.R_ne ho hb ht
theorem IsS28.apartQ {w0 W : World} {g : Nat} {f0 : ByteArray} {f1 : List Int} {f2 : Int} {α : Type} {d : Kd α} {e : Nat} {base : Nat} {ok : Nat → Prop} {v : Value} {xs : List α} (h : IsS28 w0 W g f0 f1 f2) (ho : d.Q e W base ok v xs) (ht : ∀ q, q ∈ e :: d.E → q ≠ 28) : d.Q e W base (fun k => ok k ∧ k ≠ g) v xs := by
  obtain ⟨A1, c1, hb, hg, hr1⟩ := h
  exact Kd.Q_types ho hb ht
theorem IsS28.own_neQ {w0 W : World} {g : Nat} {f0 : ByteArray} {f1 : List Int} {f2 : Int} {α : Type} {d : Kd α} {e : Nat} {base : Nat} {ok : Nat → Prop} {v : Value} {xs : List α} (h : IsS28 w0 W g f0 f1 f2) (ho : d.Q e W base ok v xs) (ht : e ≠ 28) : some g ≠ v.ownBlock := by
  obtain ⟨A1, c1, hb, hg, hr1⟩ := h
  exact Kd.Q_ne ho hb ht
theorem IsS28.apartS {w0 W : World} {g : Nat} {f0 : ByteArray} {f1 : List Int} {f2 : Int} {α : Type} {d : Kd α} {e : Nat} {base : Nat} {ok : Nat → Prop} {v : Value} {xs : List α} (h : IsS28 w0 W g f0 f1 f2) (ho : d.S e W base ok v xs) (ht : ∀ q, q ∈ e :: d.E → q ≠ 28) : d.S e W base (fun k => ok k ∧ k ≠ g) v xs := by
  obtain ⟨A1, c1, hb, hg, hr1⟩ := h
  exact Kd.S_types ho hb ht
theorem IsS28.own_neS {w0 W : World} {g : Nat} {f0 : ByteArray} {f1 : List Int} {f2 : Int} {α : Type} {d : Kd α} {e : Nat} {base : Nat} {ok : Nat → Prop} {v : Value} {xs : List α} (h : IsS28 w0 W g f0 f1 f2) (ho : d.S e W base ok v xs) (ht : e ≠ 28) : some g ≠ v.ownBlock := by
  obtain ⟨A1, c1, hb, hg, hr1⟩ := h
  exact Kd.S_ne ho hb ht
theorem IsS28.lt {w0 W : World} {g : Nat} {f0 : ByteArray} {f1 : List Int} {f2 : Int} (h : IsS28 w0 W g f0 f1 f2) : g < W.heap.size := by
  obtain ⟨A1, c1, hb, hg, hr1⟩ := h
  exact blk_lt hb
theorem IsS28.ge {w0 W : World} {g : Nat} {f0 : ByteArray} {f1 : List Int} {f2 : Int} (h : IsS28 w0 W g f0 f1 f2) : w0.heap.size ≤ g := by
  obtain ⟨A1, c1, hb, hg, hr1⟩ := h
  exact hg
theorem IsS28.ne_blk {w0 W : World} {g : Nat} {f0 : ByteArray} {f1 : List Int} {f2 : Int} {a : Nat} {cs : Array Value} {t : TypeId} {fr : Nat × Nat} (h : IsS28 w0 W g f0 f1 f2) (hb2 : W.heap[a]? = some (.cells cs t fr)) (ht : t ≠ 28) : g ≠ a := by
  obtain ⟨A1, c1, hb, hg, hr1⟩ := h
  rintro rfl
  rw [hb] at hb2
  injection hb2 with hb2
  injection hb2 with _ ht2
  exact ht ht2.symm
theorem IsS28.far {w0 W : World} {g : Nat} {f0 : ByteArray} {f1 : List Int} {f2 : Int} {p : Addr} (h : IsS28 w0 W g f0 f1 f2) (hne : g ≠ p.block) (u : Value) : IsS28 w0 (W.setCell p u) g f0 f1 f2 := by
  obtain ⟨A1, c1, hb, hg, hr1⟩ := h
  exact ⟨A1, c1, blk_far hb hne u, hg, hr1⟩
theorem cellS28_0 {W : World} {g : Nat} {A1 : Option Addr} {c1 : Nat} {f0 : ByteArray} {f1 : List Int} {f2 : Int} (h : W.heap[g]? = some (.cells #[.string f0, .slice A1 f1.length c1, .int .i64 f2] 28 (0, 0))) : W.cell? ⟨g, 0, none⟩ = some (.string f0) := (blk_cell h 0).trans rfl
theorem IsS28.set_0 {w0 W : World} {g : Nat} {f0 : ByteArray} {f1 : List Int} {f2 : Int} (h : IsS28 w0 W g f0 f1 f2) (x : ByteArray) : IsS28 w0 (W.setCell ⟨g, 0, none⟩ (.string x)) g x f1 f2 := by
  obtain ⟨A1, c1, hb, hg, hr1⟩ := h
  exact ⟨A1, c1, by simpa using blk_set hb 0 (.string x), hg, hr1⟩
theorem cellS28_1 {W : World} {g : Nat} {A1 : Option Addr} {c1 : Nat} {f0 : ByteArray} {f1 : List Int} {f2 : Int} (h : W.heap[g]? = some (.cells #[.string f0, .slice A1 f1.length c1, .int .i64 f2] 28 (0, 0))) : W.cell? ⟨g, 1, none⟩ = some (.slice A1 f1.length c1) := (blk_cell h 1).trans rfl
theorem cellS28_2 {W : World} {g : Nat} {A1 : Option Addr} {c1 : Nat} {f0 : ByteArray} {f1 : List Int} {f2 : Int} (h : W.heap[g]? = some (.cells #[.string f0, .slice A1 f1.length c1, .int .i64 f2] 28 (0, 0))) : W.cell? ⟨g, 2, none⟩ = some (.int .i64 f2) := (blk_cell h 2).trans rfl
theorem IsS28.set_2 {w0 W : World} {g : Nat} {f0 : ByteArray} {f1 : List Int} {f2 : Int} (h : IsS28 w0 W g f0 f1 f2) (x : Int) : IsS28 w0 (W.setCell ⟨g, 2, none⟩ (.int .i64 x)) g f0 f1 x := by
  obtain ⟨A1, c1, hb, hg, hr1⟩ := h
  exact ⟨A1, c1, by simpa using blk_set hb 2 (.int .i64 x), hg, hr1⟩
theorem IsS28.new (w0 W : World) (A1 : Option Addr) (c1 : Nat) (f0 : ByteArray) (f1 : List Int) (f2 : Int) (hB : Below w0.heap.size w0 W) (hr1 : Kd.C (Kd.int .i64) w0 A1 f1.length f1) : IsS28 w0 (W.alloc (.cells #[.string f0, .slice A1 f1.length c1, .int .i64 f2] 28)) W.heap.size f0 f1 f2 := ⟨A1, c1, by simpa using heap_alloc_new W _, hB.size, hr1⟩

/-! ### spec_l26One: function 43, by hand -/
section
open Go.Proofs.Ytnmfndfldhgaeaa.Base
theorem name_loop_spec (s : ByteArray) (h : s.size ≤ 12) : Ev (fun k => spec_IsName.l0 k s 0) ((List.range s.size).all fun i => nameByte (bt s i)) := by
  have := all_lt s.size (fun i => nameByte (bt s i)) (fun k i => spec_IsName.l0 k s i) true false (fun i hi hp => ⟨0, fun k _ => ?_⟩) (fun i hi hp => Ev.const fun k => ?_) (fun _ => Ev.const fun k => ?_)
  · rw [ite_bool] at this
    exact this
  · have hp := of_decide_eq_true hp
    simp only [spec_IsName.l0, spec_l01Small.f, spec_l01Digit.f]
    rw [if_pos (by omega), if_pos (by omega), w64 (by omega) (by omega)]
    by_cases h1 : bt s i ≥ 97
    · rw [if_pos h1]
      simp only [Option.bind_some, decide_eq_true_eq]
      by_cases h2 : bt s i ≤ 122
      · rw [if_pos h2]
      · exfalso; omega
    · rw [if_neg h1]
      simp only [Option.bind_some, Bool.false_eq_true, if_false]
      by_cases h3 : bt s i ≥ 48
      · rw [if_pos h3]
        simp only [Option.bind_some, decide_eq_true_eq]
        rw [if_pos (by omega)]
      · rw [if_neg h3]
        simp only [Option.bind_some, Bool.false_eq_true, if_false]
        rw [if_pos (by omega)]
  · have hp := of_decide_eq_false hp
    simp only [spec_IsName.l0, spec_l01Small.f, spec_l01Digit.f]
    rw [if_pos (by omega), if_pos (by omega)]
    by_cases h1 : bt s i ≥ 97
    · rw [if_pos h1, if_pos (by omega)]
      simp only [Option.bind_some, decide_eq_true_eq]
      rw [if_neg (by omega), if_neg (by omega), if_neg (by omega)]
    · rw [if_neg h1]
      simp only [Option.bind_some, Bool.false_eq_true, if_false]
      by_cases h3 : bt s i ≥ 48
      · rw [if_pos h3]
        simp only [Option.bind_some, decide_eq_true_eq]
        rw [if_neg (by omega), if_neg (by omega)]
      · rw [if_neg h3]
        simp only [Option.bind_some, Bool.false_eq_true, if_false]
        rw [if_neg (by omega)]
  · simp only [spec_IsName.l0]
    rw [if_neg (by omega)]
theorem name_j0 (s : ByteArray) (k : Nat) : spec_IsName.j0 (k + 1) s true = some false := by simp only [spec_IsName.j0, if_true]
theorem name_spec (s : ByteArray) : Ev (fun k => spec_IsName.f k s) (isNameB s) := by
  unfold isNameB
  by_cases h0 : s.size = 0
  · rw [decide_eq_false (by omega), Bool.false_and]
    refine Ev.const fun k => ?_
    unfold spec_IsName.f
    rw [if_pos (List.eq_nil_of_length_eq_zero (by rw [size_toList, h0]))]
    exact name_j0 s k
  · have hne : ¬ s.toList = ([] : List UInt8) := fun h => h0 (by rw [← size_toList, h]; rfl)
    by_cases h12 : s.size ≤ 12
    · by_cases hs : 97 ≤ bt s 0 ∧ bt s 0 ≤ 122
      · rw [decide_eq_true ⟨by omega, h12, hs⟩, Bool.true_and]
        refine Ev.step (f := fun k => spec_IsName.l0 k s 0) (fun k => ?_) (name_loop_spec s h12)
        simp only [spec_IsName.f, spec_l01Small.f]
        rw [if_neg hne, if_neg (by omega), if_pos (by omega), if_pos (by omega)]
        simp only [Option.bind_some]
        rw [decide_eq_true hs.2]
        simp only [Bool.not_true, spec_IsName.j0, Bool.false_eq_true, if_false]
      · rw [decide_eq_false (fun h => hs h.2.2), Bool.false_and]
        refine Ev.const fun k => ?_
        simp only [spec_IsName.f, spec_l01Small.f]
        rw [if_neg hne, if_neg (by omega), if_pos (by omega)]
        by_cases h1 : bt s 0 ≥ 97
        · rw [if_pos h1]
          simp only [Option.bind_some]
          rw [decide_eq_false (by omega)]
          exact name_j0 s k
        · rw [if_neg h1]
          exact name_j0 s k
    · rw [decide_eq_false (by omega), Bool.false_and]
      refine Ev.const fun k => ?_
      unfold spec_IsName.f
      rw [if_neg hne, if_pos (by omega)]
      exact name_j0 s k

theorem in_calls (a b c : Int) (r : Bool) (h : r = decide (b ≤ a ∧ a ≤ c)) (w : World) : Calls Try.prog 51 #[.int .i64 a, .int .i64 b, .int .i64 c] w fun e w' => e = .returned (.bool r) ∧ ∃ m, w' = w.drewN m := by
  refine (spec_l00In.calls a b c r w ?_).mono fun e w' ⟨he, ⟨hm⟩⟩ => ⟨he, hm⟩
  unfold spec_l00In.f
  by_cases hh : a ≥ b
  · rw [if_pos hh, h]; congr 1; apply Bool.eq_iff_iff.mpr; simp; omega
  · rw [if_neg hh, h]; congr 1; symm; simp; omega
set_option maxHeartbeats 8000000 in
set_option maxRecDepth 100000 in
theorem spec_l26One.at_ (ad : Addr) (f0 : ByteArray) (A : Option Addr) (c : Nat) (f1 : List Int) (f2 : Int) (w : World) (c0 : w.cell? ad = some (.string f0)) (c1 : w.cell? ⟨ad.block, ad.off + 1, none⟩ = some (.slice A f1.length c))
    (c2 : w.cell? ⟨ad.block, ad.off + 2, none⟩ = some (.int .i64 f2)) (hr : Kd.C (Kd.int .i64) w A f1.length f1) :
    Calls Try.prog 43 #[.pointer (some ad)] w fun e w' => e = .returned (.bool (handV f0 f1 f2)) ∧ Drawn0 w w' := by
  obtain ⟨k, hk⟩ := (name_spec f0).rounds
  have I1 : Aside0 (∀ w, Calls Try.prog 66 #[.string f0] w fun e w' => e = .returned (.bool (isNameB f0)) ∧ ∃ m, w' = w.drewN m) := ⟨fun w => (spec_IsName.calls k f0 _ w hk).mono fun e w' ⟨he, ⟨hm⟩⟩ => ⟨he, hm⟩⟩
  clear hk k
  have I2 := Aside0.mk (fun b h => in_calls f2 0 100000 b h)
  have hm := Kd.C_max hr
  have HR := Aside0.mk hr
  have C0 := Aside0.mk c0
  have C1 := Aside0.mk c1
  have C2 := Aside0.mk c2
  clear hr c0 c1 c2
  go_enter Try.func43, Try.ntmps43
  go_wp2
  go_loopw [3] (fun v3 w' => ∃ i : Nat, v3 = .int .i64 i ∧ i ≤ f1.length ∧ Aside0 (∀ j, j < i → shiftOk (rd f1 (j : Int)) = true) ∧ Aside0 (Drawn0 w w')) (fun v3 _ => f1.length - (intOf v3).toNat)
  case atStart => exact ⟨0, rfl, Nat.zero_le _, ⟨fun j hj => absurd hj (Nat.not_lt_zero _)⟩, ⟨Drawn0.refl _⟩⟩
  case round =>
    obtain ⟨i, rfl, hi, hf, hw⟩ := hrel
    have hb := Drawn0.below hw.out
    have c0 := pw_cell_below hb C0.out
    have c1 := pw_cell_below hb C1.out
    have c2 := pw_cell_below hb C2.out
    have hr := Kd.C_below HR.out hb
    clear hb
    by_cases hlt : i < f1.length
    · have p1 : (0 : Int) ≤ (i : Int) := Int.natCast_nonneg i
      have p2 : (i : Int) < (f1.length : Int) := Int.ofNat_lt.2 hlt
      obtain ⟨ad1, rfl, hx⟩ := Kd.at_int hr (i : Int) p1 p2
      rw [Int.toNat_natCast] at hx
      have I3 := Aside0.mk (fun b h => in_calls (rd f1 (i : Int)) 0 1440 b h)
      cases hv : shiftOk (rd f1 (i : Int)) with
      | false =>
        have I4 := Aside0.mk (I3.out false hv.symm)
        have HV := Aside0.mk hv
        clear I3 hv
        go_wp2_with (go_at_call 51; (with_reducible refine (I4.out _).mono ?_); rintro e w' ⟨rfl, q, rfl⟩)
        go_ret
        exact ⟨by rw [hand_no hlt HV.out]; rfl, Drawn0.step hw.out _⟩
      | true =>
        have I4 := Aside0.mk (I3.out true hv.symm)
        have HV := Aside0.mk hv
        clear I3 hv
        go_wp2_with (go_at_call 51; (with_reducible refine (I4.out _).mono ?_); rintro e w' ⟨rfl, q, rfl⟩)
        go_roundw
        case rel =>
          exact ⟨i + 1, by go_num, by omega, ⟨fun j hj => by
            by_cases hji : j = i
            · subst hji; exact HV.out
            · exact hf.out j (by omega)⟩, ⟨Drawn0.step hw.out _⟩⟩
        case measure => simp [intOf]; omega
    · have he := hand_yes (f0 := f0) (f2 := f2) (fun j hj => hf.out j (by omega))
      generalize hb2 : decide (0 ≤ f2 ∧ f2 ≤ 100000) = b2
      replace I2 := Aside0.mk (I2.out b2 hb2.symm)
      have HB2 := Aside0.mk hb2
      clear hb2
      generalize isNameB f0 = b1 at *
      have p3 : decide ((f1.length : Int) ≤ 14) = decide (f1.length ≤ 14) := by
        by_cases h : f1.length ≤ 14
        · rw [decide_eq_true h, decide_eq_true (by omega)]
        · rw [decide_eq_false h, decide_eq_false (by omega)]
      generalize decide (f1.length ≤ 14) = b3 at *
      have HE := Aside0.mk he
      clear he
      cases b1 <;> cases b3 <;> cases b2
      all_goals
        go_wp2_with (first | (go_at_call 51; (with_reducible refine (I2.out _).mono ?_); rintro e w' ⟨rfl, q, rfl⟩) | (go_at_call 66; (with_reducible refine (I1.out _).mono ?_); rintro e w' ⟨rfl, q, rfl⟩))
        go_ret
        exact ⟨by rw [HE.out, HB2.out]; rfl, by first | exact Drawn0.step hw.out _ | exact Drawn0.step (Drawn0.step hw.out _) _⟩
def spec_l26One.f (s0_0 : ByteArray) (s0_1 : List Int) (s0_2 : Int) : Option (Bool × ByteArray × Int) := some (handV s0_0 s0_1 s0_2, s0_0, s0_2)
theorem spec_l26One.calls (g : Nat) (s0_0 : ByteArray) (s0_1 : List Int) (s0_2 : Int) (r1 : Bool) (r2 : ByteArray) (r3 : Int) (w0 w : World) (hI : IsS28 w0 w g s0_0 s0_1 s0_2) (hB : Below w0.heap.size w0 w) (h : spec_l26One.f s0_0 s0_1 s0_2 = some (r1, r2, r3)) :
    Calls Try.prog 43 #[.pointer (some ⟨g, 0, none⟩)] w fun e w' => e = .returned (.bool r1) ∧ IsS28 w0 w' g r2 s0_1 r3 ∧ Below w0.heap.size w0 w' ∧ KeepBut w w' g none := by
  simp only [spec_l26One.f, Option.some.injEq, Prod.mk.injEq] at h
  obtain ⟨rfl, rfl, rfl⟩ := h
  have hI2 := hI
  obtain ⟨A, c, hb, hg, hr⟩ := hI
  refine (spec_l26One.at_ ⟨g, 0, none⟩ s0_0 A c s0_1 s0_2 w (cellS28_0 hb) (cellS28_1 hb) (cellS28_2 hb) (Kd.C_below hr hB)).mono fun e w' ⟨he, ⟨hd⟩⟩ => ?_
  obtain ⟨n, rfl⟩ := hd
  exact ⟨he, IsS28.drewN hI2 n, pw_below_drewN hB n, keep_drewN (KeepBut.refl w g none) n⟩
end


/-! ### spec_l26Ok: function 54, by hand -/
section
open Go.Proofs.Ytnmfndfldhgaeaa.Base
def hdS (l : List S28) (i : Nat) : ByteArray × List Int × Int := ((rd_T28 l i).f0, (rd_T28 l i).f1, (rd_T28 l i).f2)
def spec_l26Ok.f (l0 : List S28) : Option Bool := some (handsOk (hdS l0) l0.length)
set_option maxHeartbeats 8000000 in
set_option maxRecDepth 100000 in
theorem spec_l26Ok.calls (A0 : Option Addr) (c0 : Nat) (l0 : List (S28)) (r : Bool) (w : World) (hr0 : Kd.C k28 w A0 l0.length l0) (hc0 : l0.length ≤ c0) (h : spec_l26Ok.f l0 = some r) :
    Calls Try.prog 54 #[.slice A0 l0.length c0] w fun e w' => e = .returned (.bool r) ∧ Drawn0 w w' := by
  have hm := Kd.C_max hr0
  obtain rfl : handsOk (hdS l0) l0.length = r := by simpa [spec_l26Ok.f] using h
  have HR0 := Aside0.mk hr0
  clear hr0 h hc0
  go_enter Try.func54, Try.ntmps54
  go_wp2
  go_loopw [3] (fun v3 w' => ∃ i : Nat, v3 = .int .i64 i ∧ i ≤ l0.length ∧ Aside0 (∀ j, j < i → fitH (hdS l0) j = true) ∧ Aside0 (Drawn0 w w')) (fun v3 _ => l0.length - (intOf v3).toNat)
  case atStart => exact ⟨0, rfl, Nat.zero_le _, ⟨fun j hj => absurd hj (Nat.not_lt_zero _)⟩, ⟨Drawn0.refl _⟩⟩
  case round =>
    obtain ⟨i, rfl, hi, hf, hw⟩ := hrel
    have HRw := Aside0.mk (Kd.C_below HR0.out (Drawn0.below hw.out))
    by_cases hlt : i < l0.length
    · have p1 : (0 : Int) ≤ (i : Int) := Int.natCast_nonneg i
      have p2 : (i : Int) < (l0.length : Int) := Int.ofNat_lt.2 hlt
      obtain ⟨ad, A1, c1, rfl, d0, d1, d2, hl1, hC1⟩ := at_T28 HRw.out (i : Int) p1 p2
      rw [Int.toNat_natCast] at d0 d1 d2
      have I1 := Aside0.mk (spec_l26One.at_ (ad.add (i * 3)) _ A1 c1 _ _ _ d0 d1 d2 hC1)
      generalize hv : handV (rd_T28 l0 i).f0 (rd_T28 l0 i).f1 (rd_T28 l0 i).f2 = v at I1
      have HV := Aside0.mk hv
      have D0 := Aside0.mk d0
      clear hv d0 d1 d2 hl1 hC1
      cases v with
      | false =>
        go_wp2_with (go_at_call 43; (with_reducible refine I1.out.mono ?_); rintro e w' ⟨rfl, ⟨⟨q, rfl⟩⟩⟩)
        go_ret
        have hno := handsOk_no hlt (fitH_bad (hd := hdS l0) (i := i) HV.out)
        exact ⟨by rw [hno]; rfl, Drawn0.step hw.out _⟩
      | true =>
        go_wp2_with (go_at_call 43; (with_reducible refine I1.out.mono ?_); rintro e w' ⟨rfl, ⟨⟨q, rfl⟩⟩⟩)
        go_loopw [4] (fun v4 w' => ∃ k : Nat, v4 = .int .i64 k ∧ k ≤ i ∧ Aside0 (∀ j, j < k → ¬ (hdS l0 j).1 = (hdS l0 i).1) ∧ Aside0 (Drawn0 w w')) (fun v4 _ => i - (intOf v4).toNat)
        case atStart => exact ⟨0, rfl, Nat.zero_le _, ⟨fun j hj => absurd hj (Nat.not_lt_zero _)⟩, ⟨Drawn0.step hw.out _⟩⟩
        case round =>
          rename_i wr2 _
          obtain ⟨k, rfl, hk, hn, hw2⟩ := hrel
          have HRx := Aside0.mk (Kd.C_below HR0.out (Drawn0.below hw2.out))
          by_cases hki : k < i
          · have q1 : (0 : Int) ≤ (k : Int) := Int.natCast_nonneg k
            have q2 : (k : Int) < (l0.length : Int) := by omega
            have q3 : (k : Int) < (i : Int) := by omega
            obtain ⟨ad2, A2, c2, e2, g0, -⟩ := at_T28 HRx.out (i : Int) p1 p2
            cases e2
            obtain ⟨ad2, A3, c3, e3, f0, -⟩ := at_T28 HRx.out (k : Int) q1 q2
            cases e3
            rw [Int.toNat_natCast] at g0 f0
            have NX := Aside0.mk (fitH_twin (hd := hdS l0) hki)
            have NE : Aside0 ((hdS l0 k).1 = (rd_T28 l0 (k : Int)).f0 ∧ (hdS l0 i).1 = (rd_T28 l0 (i : Int)).f0) := ⟨rfl, rfl⟩
            generalize (rd_T28 l0 (k : Int)).f0 = nk at f0 NE
            generalize (rd_T28 l0 (i : Int)).f0 = ni at g0 NE
            cases hq : nk.toList == ni.toList with
            | true =>
              have HQ := Aside0.mk (bytes_eq hq)
              go_wp2
              go_quiet (fail)
              go_wp2
              go_ret
              have hno := handsOk_no hlt (NX.out (by rw [NE.out.1, NE.out.2]; exact HQ.out))
              exact ⟨by rw [hno]; rfl, Drawn0.step hw2.out _⟩
            | false =>
              have HQ := Aside0.mk (bytes_ne hq)
              go_wp2
              go_quiet (fail)
              go_wp2
              go_roundw
              case rel => exact ⟨k + 1, by go_num, by omega, ⟨fun j hj => by
                by_cases e : j = k
                · subst e; rw [NE.out.1, NE.out.2]; exact HQ.out
                · exact hn.out j (by omega)⟩, ⟨Drawn0.step hw2.out _⟩⟩
              case measure => simp [intOf]; omega
          · have q3 : ¬ (k : Int) < (i : Int) := by omega
            have hg := fitH_good (hd := hdS l0) (i := i) HV.out (fun j hj => hn.out j (by omega))
            have HG := Aside0.mk hg
            clear hg
            go_wp2
            go_roundw
            case rel => exact ⟨i + 1, by go_num, by omega, ⟨fun j hj => by
                by_cases e : j = i
                · subst e; exact HG.out
                · exact hf.out j (by omega)⟩, hw2⟩
            case measure => simp [intOf]; omega
    · go_wp2
      go_ret
      have := handsOk_yes (hd := hdS l0) (n := l0.length) (fun j hj => hf.out j (by omega))
      exact ⟨by rw [this]; simp; omega, hw.out⟩
end


/-! ### spec_BusiestDay: function 28 -/
mutual
def spec_BusiestDay.l0 : Nat → List (S28) → Int → Int → Int → Option (Int × Int × Int)
  | 0, _, _, _, _ => none
  | k + 1, x0, x5, x6, x7 => if x7 < 14 then (spec_BusiestDay.l1 k x0 x5 x6 x7 0 0) else (if x6 = 0 then (some (0, 0, 3)) else (some (x5, x6, 0)))
def spec_BusiestDay.l1 : Nat → List (S28) → Int → Int → Int → Int → Int → Option (Int × Int × Int)
  | 0, _, _, _, _, _, _ => none
  | k + 1, x0, x5, x6, x7, x8, x9 => if x9 < (x0.length : Int) then (if 0 ≤ x9 then (if x7 < (((rd_T28 x0 x9).f1).length : Int) then (if 0 ≤ x7 then (spec_BusiestDay.l1 k x0 x5 x6 x7 (wrap64 (x8 + (rd ((rd_T28 x0 x9).f1) x7))) (wrap64 (x9 + 1))) else (none)) else (spec_BusiestDay.l1 k x0 x5 x6 x7 x8 (wrap64 (x9 + 1)))) else (none)) else (if x8 > x6 then (spec_BusiestDay.l0 k x0 x7 x8 (wrap64 (x7 + 1))) else (spec_BusiestDay.l0 k x0 x5 x6 (wrap64 (x7 + 1))))
end
def spec_BusiestDay.f (k : Nat) (l0 : List (S28)) : Option (Int × Int × Int) := (spec_l26Ok.f l0).bind fun t137 => (if t137 = true then (spec_BusiestDay.l0 k l0 0 0 0) else (some (0, 0, 1)))
theorem spec_BusiestDay.mono_l : ∀ k, (∀ y0 y1 y2 y3, LeO (spec_BusiestDay.l0 k y0 y1 y2 y3) (spec_BusiestDay.l0 (k + 1) y0 y1 y2 y3)) ∧ (∀ y0 y1 y2 y3 y4 y5, LeO (spec_BusiestDay.l1 k y0 y1 y2 y3 y4 y5) (spec_BusiestDay.l1 (k + 1) y0 y1 y2 y3 y4 y5))
  | 0 => ⟨fun _ _ _ _ r h => by simp [spec_BusiestDay.l0] at h, fun _ _ _ _ _ _ r h => by simp [spec_BusiestDay.l1] at h⟩
  | k + 1 => by
    obtain ⟨ih0, ih1⟩ := spec_BusiestDay.mono_l k
    refine ⟨?_, ?_⟩
    · intro y0 y1 y2 y3
      unfold spec_BusiestDay.l0
      repeat' first
      | (with_reducible exact ih0 _ _ _ _)
      | (with_reducible exact ih1 _ _ _ _ _ _)
      | (with_reducible exact LeO.refl _)
      | (with_reducible exact LeO.none _)
      | (with_reducible refine LeO.ite ?_ ?_)
      | (with_reducible refine LeO.bind ?_ (fun _ => ?_))
      | exact ih0 _ _ _ _
      | exact ih1 _ _ _ _ _ _
      | exact LeO.none _
      | refine LeO.ite ?_ ?_
      | refine LeO.bind ?_ (fun _ => ?_)
    · intro y0 y1 y2 y3 y4 y5
      unfold spec_BusiestDay.l1
      repeat' first
      | (with_reducible exact ih0 _ _ _ _)
      | (with_reducible exact ih1 _ _ _ _ _ _)
      | (with_reducible exact LeO.refl _)
      | (with_reducible exact LeO.none _)
      | (with_reducible refine LeO.ite ?_ ?_)
      | (with_reducible refine LeO.bind ?_ (fun _ => ?_))
      | exact ih0 _ _ _ _
      | exact ih1 _ _ _ _ _ _
      | exact LeO.none _
      | refine LeO.ite ?_ ?_
      | refine LeO.bind ?_ (fun _ => ?_)
theorem spec_BusiestDay.mono : ∀ a0 k, LeO (spec_BusiestDay.f k a0) (spec_BusiestDay.f (k + 1) a0) := by
  intro a0 k
  obtain ⟨ih0, ih1⟩ := spec_BusiestDay.mono_l k
  unfold spec_BusiestDay.f
  repeat' first
      | (with_reducible exact ih0 _ _ _ _)
      | (with_reducible exact ih1 _ _ _ _ _ _)
      | (with_reducible exact LeO.refl _)
      | (with_reducible exact LeO.none _)
      | (with_reducible refine LeO.ite ?_ ?_)
      | (with_reducible refine LeO.bind ?_ (fun _ => ?_))
      | exact ih0 _ _ _ _
      | exact ih1 _ _ _ _ _ _
      | exact LeO.none _
      | refine LeO.ite ?_ ?_
      | refine LeO.bind ?_ (fun _ => ?_)
set_option maxHeartbeats 8000000 in
set_option maxRecDepth 100000 in
theorem spec_BusiestDay.calls (k : Nat) (A0 : Option Addr) (c0 : Nat) (l0 : List (S28)) (r1 : Int) (r2 : Int) (r3 : Int) (w : World) (hr0 : Kd.C k28 w A0 l0.length l0) (hc0 : l0.length ≤ c0) (h : spec_BusiestDay.f k l0 = some (r1, r2, r3)) :
    Calls Try.prog 28 #[.slice A0 l0.length c0] w fun e w' => e = .returned (.tuple #[.int .i64 r1, .int .i64 r2, .int .i64 r3]) ∧ Drawn0 w w' := by
  have HR0 := Aside0.mk hr0
  have HC0 := Aside0.mk hc0
  clear hr0 hc0
  have H : ((spec_l26Ok.f l0).bind fun t137 => (if t137 = true then (spec_BusiestDay.l0 k l0 0 0 0) else (some (0, 0, 1)))) = some (r1, r2, r3) := h
  clear h
  replace H := Option.bind_eq_some_iff.mp H
  obtain ⟨t137, A20, H⟩ := H
  replace H : (if t137 = true then (spec_BusiestDay.l0 k l0 0 0 0) else (some (0, 0, 1))) = some (r1, r2, r3) := H
  have A2 := Aside0.mk A20
  clear A20
  by_cases c3 : t137 = true
  · subst c3
    have H1 : (spec_BusiestDay.l0 k l0 0 0 0) = some (r1, r2, r3) := by rw [if_pos rfl] at H; exact H
    clear H
    have H := H1
    clear H1
    have H' := Aside0.mk H
    clear H
    go_enter Try.func28, Try.ntmps28
    go_wp2_with (first | ((with_reducible refine gate_callee (f := 54) rfl ?_); refine goesL_ (some 11) rfl rfl Try.func54 (by kernel_rfl) rfl #[.slice A0 l0.length c0] rfl (by (try simp only [List.map_toArray, List.map_cons, List.map_nil]); first | done | rfl | (simp only [List.length_drop, List.length_take]; rfl)) ?_; (with_reducible refine (spec_l26Ok.calls _ _ l0 true _ ?side1 ?side2 A2.out).mono ?_); (case side1 => repeat (first | exact HR0.out | (with_reducible refine Kd.C_alloc ?_ _) | (with_reducible refine Kd.C_drewN ?_ _) | (with_reducible refine Kd.C_drew ?_))); (case side2 => exact HC0.out); rintro e w' ⟨rfl, ⟨nd, rfl⟩⟩; refine ⟨_, rfl, ?_⟩))
    go_loopg [5, 6, 7] k (fun kq v5 v6 v7 w' => ∃ (x5_1 : Int) (x6_1 : Int) (x7_1 : Int), v5 = .int .i64 x5_1 ∧ v6 = .int .i64 x6_1 ∧ v7 = .int .i64 x7_1 ∧ Aside0 (spec_BusiestDay.l0 kq l0 x5_1 x6_1 x7_1 = some (r1, r2, r3)) ∧ Aside0 (kq ≤ k) ∧ Drawn0 w w')
    case atStart => exact ⟨(0), (0), (0), (by first | rfl | (simp; done) | (simp [*]; done)), (by first | rfl | (simp; done) | (simp [*]; done)), (by first | rfl | (simp; done) | (simp [*]; done)), H', ⟨Nat.le_refl _⟩, by repeat (first | exact Drawn0.refl _ | apply Drawn0.step)⟩
    case round =>
      clear H'
      try clear c2
      try clear p2
      try clear c3
      obtain ⟨x5_1, x6_1, x7_1, rfl, rfl, rfl, HA, HK1, ⟨m1, rfl⟩⟩ := hrel
      cases gk with
      | zero => exact absurd HA.out (by simp [spec_BusiestDay.l0])
      | succ k1 =>
        have H := HA.out
        clear HA
        simp only [spec_BusiestDay.l0] at H
        by_cases c4 : x7_1 < 14
        · rw [if_pos c4] at H
          have c4b0 : decide (x7_1 < 14) = true := decide_eq_true c4
          clear c4
          have H' := Aside0.mk H
          clear H
          go_wp2
          go_loopg [8, 9] k1 (fun kq v8 v9 w' => ∃ (x8_2 : Int) (x9_2 : Int), v8 = .int .i64 x8_2 ∧ v9 = .int .i64 x9_2 ∧ Aside0 (spec_BusiestDay.l1 kq l0 x5_1 x6_1 x7_1 x8_2 x9_2 = some (r1, r2, r3)) ∧ Aside0 (kq ≤ k1) ∧ Drawn0 w w')
          case atStart => exact ⟨(0), (0), (by first | rfl | (simp; done) | (simp [*]; done)), (by first | rfl | (simp; done) | (simp [*]; done)), H', ⟨Nat.le_refl _⟩, by repeat (first | exact Drawn0.refl _ | apply Drawn0.step)⟩
          case round =>
            clear H'
            try clear c2
            try clear p2
            try clear c3
            try clear c4
            try clear c4b0
            try clear p2
            obtain ⟨x8_2, x9_2, rfl, rfl, HA, HK2, ⟨m2, rfl⟩⟩ := hrel
            cases gk with
            | zero => exact absurd HA.out (by simp [spec_BusiestDay.l1])
            | succ k2 =>
              have H := HA.out
              clear HA
              simp only [spec_BusiestDay.l1] at H
              by_cases c5 : x9_2 < (l0.length : Int)
              · rw [if_pos c5] at H
                have c5b0 : decide (x9_2 < (l0.length : Int)) = true := decide_eq_true c5
                clear c5
                by_cases c6 : 0 ≤ x9_2
                · rw [if_pos c6] at H
                  have c6b0 : decide (0 ≤ x9_2) = true := decide_eq_true c6
                  clear c6
                  by_cases c7 : x7_1 < (((rd_T28 l0 x9_2).f1).length : Int)
                  · rw [if_pos c7] at H
                    have c7b0 : decide (x7_1 < (((rd_T28 l0 x9_2).f1).length : Int)) = true := decide_eq_true c7
                    clear c7
                    by_cases c8 : 0 ≤ x7_1
                    · rw [if_pos c8] at H
                      have c8b0 : decide (0 ≤ x7_1) = true := decide_eq_true c8
                      clear c8
                      have H' := Aside0.mk H
                      clear H
                      have p138 : 0 ≤ (x9_2 : Int) := of_decide_eq_true (by first | (with_reducible assumption) | assumption)
                      have q138 : x9_2 < (l0.length : Int) := of_decide_eq_true (by first | (with_reducible assumption) | assumption)
                      obtain ⟨ad138, A138_1, c138_1, e138, hx138_0, hx138_1, hx138_2, hl138_1, hi138_1⟩ := at_T28 HR0.out x9_2 p138 q138
                      cases e138
                      have HR138_1 := Aside0.mk hi138_1
                      have HC138_1 := Aside0.mk hl138_1
                      clear hi138_1 hl138_1
                      replace p138 := eq_true p138
                      replace q138 := eq_true q138
                      have p139 : 0 ≤ (x9_2 : Int) := of_decide_eq_true (by first | (with_reducible assumption) | assumption)
                      have q139 : x9_2 < (l0.length : Int) := of_decide_eq_true (by first | (with_reducible assumption) | assumption)
                      obtain ⟨ad139, A139_1, c139_1, e139, hx139_0, hx139_1, hx139_2, hl139_1, hi139_1⟩ := at_T28 HR0.out x9_2 p139 q139
                      obtain rfl : ad138 = ad139 := (by injection e139)
                      have HR139_1 := Aside0.mk hi139_1
                      have HC139_1 := Aside0.mk hl139_1
                      clear hi139_1 hl139_1
                      replace p139 := eq_true p139
                      replace q139 := eq_true q139
                      have ea_ := Option.some.inj (hx138_1.symm.trans hx139_1)
                      injection ea_ with ea_ en_ ec_
                      subst ea_
                      subst ec_
                      clear en_
                      have p140 : 0 ≤ (x7_1 : Int) := of_decide_eq_true (by first | (with_reducible assumption) | assumption)
                      have q140 : x7_1 < (((rd_T28 l0 x9_2).f1).length : Int) := of_decide_eq_true (by first | (with_reducible assumption) | assumption)
                      obtain ⟨ad140, e140, hx140_0⟩ := Kd.at_int HR139_1.out x7_1 p140 q140
                      cases e140
                      replace p140 := eq_true p140
                      replace q140 := eq_true q140
                      go_wp2
                      go_roundg k2
                      case measure => have := HK1.out; have := HK2.out; omega
                      case rel => exact ⟨(wrap64 (x8_2 + (rd ((rd_T28 l0 x9_2).f1) x7_1))), (wrap64 (x9_2 + 1)), (by first | rfl | (simp; done) | (simp [*]; done)), (by first | rfl | (simp; done) | (simp [*]; done)), H', ⟨by have := HK1.out; have := HK2.out; omega⟩, by repeat (first | exact Drawn0.refl _ | apply Drawn0.step)⟩
                    · rw [if_neg c8] at H
                      exact absurd H (by simp)
                  · rw [if_neg c7] at H
                    have c7b0 : decide (x7_1 < (((rd_T28 l0 x9_2).f1).length : Int)) = false := decide_eq_false c7
                    clear c7
                    have H' := Aside0.mk H
                    clear H
                    have p138 : 0 ≤ (x9_2 : Int) := of_decide_eq_true (by first | (with_reducible assumption) | assumption)
                    have q138 : x9_2 < (l0.length : Int) := of_decide_eq_true (by first | (with_reducible assumption) | assumption)
                    obtain ⟨ad138, A138_1, c138_1, e138, hx138_0, hx138_1, hx138_2, hl138_1, hi138_1⟩ := at_T28 HR0.out x9_2 p138 q138
                    cases e138
                    have HR138_1 := Aside0.mk hi138_1
                    have HC138_1 := Aside0.mk hl138_1
                    clear hi138_1 hl138_1
                    replace p138 := eq_true p138
                    replace q138 := eq_true q138
                    go_wp2
                    go_roundg k2
                    case measure => have := HK1.out; have := HK2.out; omega
                    case rel => exact ⟨(x8_2), (wrap64 (x9_2 + 1)), (by first | rfl | (simp; done) | (simp [*]; done)), (by first | rfl | (simp; done) | (simp [*]; done)), H', ⟨by have := HK1.out; have := HK2.out; omega⟩, by repeat (first | exact Drawn0.refl _ | apply Drawn0.step)⟩
                · rw [if_neg c6] at H
                  exact absurd H (by simp)
              · rw [if_neg c5] at H
                have c5b0 : decide (x9_2 < (l0.length : Int)) = false := decide_eq_false c5
                clear c5
                by_cases c9 : x8_2 > x6_1
                · rw [if_pos c9] at H
                  have c9b0 : decide (x6_1 < x8_2) = true := decide_eq_true c9
                  clear c9
                  have H' := Aside0.mk H
                  clear H
                  go_wp2
                  go_roundg k2
                  case measure => have := HK1.out; have := HK2.out; omega
                  case rel => exact ⟨(x7_1), (x8_2), (wrap64 (x7_1 + 1)), (by first | rfl | (simp; done) | (simp [*]; done)), (by first | rfl | (simp; done) | (simp [*]; done)), (by first | rfl | (simp; done) | (simp [*]; done)), H', ⟨by have := HK1.out; have := HK2.out; omega⟩, by repeat (first | exact Drawn0.refl _ | apply Drawn0.step)⟩
                · rw [if_neg c9] at H
                  have c9b0 : decide (x6_1 < x8_2) = false := decide_eq_false c9
                  clear c9
                  have H' := Aside0.mk H
                  clear H
                  go_wp2
                  go_roundg k2
                  case measure => have := HK1.out; have := HK2.out; omega
                  case rel => exact ⟨(x5_1), (x6_1), (wrap64 (x7_1 + 1)), (by first | rfl | (simp; done) | (simp [*]; done)), (by first | rfl | (simp; done) | (simp [*]; done)), (by first | rfl | (simp; done) | (simp [*]; done)), H', ⟨by have := HK1.out; have := HK2.out; omega⟩, by repeat (first | exact Drawn0.refl _ | apply Drawn0.step)⟩
        · rw [if_neg c4] at H
          have c4b0 : decide (x7_1 < 14) = false := decide_eq_false c4
          clear c4
          by_cases c10 : x6_1 = 0
          · rw [if_pos c10] at H
            have c10b0 : (x6_1 == 0) = true := beq_iff_eq.mpr c10
            have c10b1 : (x6_1 != 0) = false := bne_eq_false_iff_eq.mpr c10
            clear c10
            simp only [Option.some.injEq, Prod.mk.injEq] at H
            obtain ⟨rfl, rfl, rfl⟩ := H
            go_wp2
            go_ret3
            exact ⟨by first | rfl | (simp; done) | (simp [*]; done), by repeat (first | exact Drawn0.refl _ | apply Drawn0.step)⟩
          · rw [if_neg c10] at H
            have c10b0 : (x6_1 == 0) = false := beq_eq_false_iff_ne.mpr c10
            have c10b1 : (x6_1 != 0) = true := bne_iff_ne.mpr c10
            simp only [Option.some.injEq, Prod.mk.injEq] at H
            obtain ⟨rfl, rfl, rfl⟩ := H
            go_wp2
            go_ret3
            exact ⟨by first | rfl | (simp; done) | (simp [*]; done), by repeat (first | exact Drawn0.refl _ | apply Drawn0.step)⟩
  · replace c3 := Bool.eq_false_iff.mpr c3
    subst c3
    have H1 : (some (0, 0, 1)) = some (r1, r2, r3) := by rw [if_neg (show ¬ (false = true) by decide)] at H; exact H
    clear H
    have H := H1
    clear H1
    simp only [Option.some.injEq, Prod.mk.injEq] at H
    obtain ⟨rfl, rfl, rfl⟩ := H
    go_enter Try.func28, Try.ntmps28
    go_wp2_with (first | ((with_reducible refine gate_callee (f := 54) rfl ?_); refine goesL_ (some 11) rfl rfl Try.func54 (by kernel_rfl) rfl #[.slice A0 l0.length c0] rfl (by (try simp only [List.map_toArray, List.map_cons, List.map_nil]); first | done | rfl | (simp only [List.length_drop, List.length_take]; rfl)) ?_; (with_reducible refine (spec_l26Ok.calls _ _ l0 false _ ?side1 ?side2 A2.out).mono ?_); (case side1 => repeat (first | exact HR0.out | (with_reducible refine Kd.C_alloc ?_ _) | (with_reducible refine Kd.C_drewN ?_ _) | (with_reducible refine Kd.C_drew ?_))); (case side2 => exact HC0.out); rintro e w' ⟨rfl, ⟨nd, rfl⟩⟩; refine ⟨_, rfl, ?_⟩))
    go_ret3
    exact ⟨by first | rfl | (simp; done) | (simp [*]; done), by repeat (first | exact Drawn0.refl _ | apply Drawn0.step)⟩

/-! ### impl_within: function 50 -/
def impl_within.f (a0 : Int) (a1 : Int) (a2 : Int) : Option (Bool) := if a0 ≥ a1 then (some (decide (a0 ≤ a2))) else (some false)
set_option maxHeartbeats 8000000 in
set_option maxRecDepth 100000 in
theorem impl_within.calls (a0 : Int) (a1 : Int) (a2 : Int) (r : Bool) (w : World) (h : impl_within.f a0 a1 a2 = some r) :
    Calls Try.prog 50 #[.int .i64 a0, .int .i64 a1, .int .i64 a2] w fun e w' => e = .returned (.bool r) ∧ Drawn0 w w' := by
  have H : (if a0 ≥ a1 then (some (decide (a0 ≤ a2))) else (some false)) = some r := h
  clear h
  by_cases c4 : a0 ≥ a1
  · rw [if_pos c4] at H
    have c4b0 : decide (a1 ≤ a0) = true := decide_eq_true c4
    clear c4
    obtain rfl := Option.some.inj H
    go_enter Try.func50, Try.ntmps50
    go_wp2
    go_ret
    exact ⟨by first | rfl | (simp; done) | (simp [*]; done), by repeat (first | exact Drawn0.refl _ | apply Drawn0.step)⟩
  · rw [if_neg c4] at H
    have c4b0 : decide (a1 ≤ a0) = false := decide_eq_false c4
    clear c4
    obtain rfl := Option.some.inj H
    go_enter Try.func50, Try.ntmps50
    go_wp2
    go_ret
    exact ⟨by first | rfl | (simp; done) | (simp [*]; done), by repeat (first | exact Drawn0.refl _ | apply Drawn0.step)⟩

end Go.Proofs.Ytnmfndfldhgaeaa.QFnExactBusiestDay
