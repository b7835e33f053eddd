/- Functions and contracts of one law, printed by this session's own program (contracts by hand among them). -/
import Derived.Test.YtnmfndfldhgaeaaQFnExactLongestStreakx0
import Derived.Test.YtnmfndfldhgaeaaQFnExactLongestStreakx1
namespace Go.Proofs.Ytnmfndfldhgaeaa.QFnExactLongestStreak
open Go.RowKit Go.Proofs.YtnmfndfldhgaeaaW.PrintWords Go.Proofs.YtnmfndfldhgaeaaW.PrintLast Go.Proofs.YtnmfndfldhgaeaaW.PrintMore
attribute [local go_sem] max2_int min2_int max_two min_two max_three min_three max_four min_four   -- for this text's walks alone
set_option linter.unusedVariables false
set_option linter.unusedSimpArgs false

/-- A state of type 28 at block g of W; what its slices lead to came in by w0. -/
def IsS28 (w0 W : World) (g : Nat) (f0 : ByteArray) (f1 : List Int) (f2 : Int) : Prop := ∃ A1 c1, W.heap[g]? = some (.cells #[.string f0, .slice A1 f1.length c1, .int .i64 f2] 28 (0, 0)) ∧ w0.heap.size ≤ g ∧ Kd.C (Kd.int .i64) w0 A1 f1.length f1
theorem IsS28.grown {w0 W : World} {g : Nat} {f0 : ByteArray} {f1 : List Int} {f2 : Int} {W1 : World} {row : Option Nat} (h : IsS28 w0 W g f0 f1 f2) (hw : W.grownBy W1 row) (hne : some g ≠ row) : IsS28 w0 W1 g f0 f1 f2 := by
  obtain ⟨A1, c1, hb, hg, hr1⟩ := h
  exact ⟨A1, c1, blk_grown hb hw hne, hg, hr1⟩
theorem IsS28.own_neN {w0 W : World} {g : Nat} {f0 : ByteArray} {f1 : List Int} {f2 : Int} {α : Type} {d : Kd α} {e : Nat} {base : Nat} {ok : Nat → Prop} {v : Value} {xs : List α} (h : IsS28 w0 W g f0 f1 f2) (ho : Kd.N d e W base ok v xs) (ht : e ≠ 28) : some g ≠ v.ownBlock := by
  obtain ⟨A1, c1, hb, hg, hr1⟩ := h
  exact Kd.N_ne ho hb ht
theorem IsS28.fresh {w0 W : World} {g : Nat} {f0 : ByteArray} {f1 : List Int} {f2 : Int} (h : IsS28 w0 W g f0 f1 f2) : ∀ k, W.heap.size ≤ k → k ≠ g := by
  obtain ⟨A1, c1, hb, hg, hr1⟩ := h
  exact Kd.freshB hb
theorem IsS28.kept {w0 W : World} {g : Nat} {f0 : ByteArray} {f1 : List Int} {f2 : Int} {W1 : World} {S : Nat → Prop} (h : IsS28 w0 W g f0 f1 f2) (hk : Kept W W1 S) (hne : ¬ S g) : IsS28 w0 W1 g f0 f1 f2 := by
  obtain ⟨A1, c1, hb, hg, hr1⟩ := h
  exact ⟨A1, c1, blk_kept hb hk hne, hg, hr1⟩
theorem IsS28.below {w0 W : World} {g : Nat} {f0 : ByteArray} {f1 : List Int} {f2 : Int} {W1 : World} (h : IsS28 w0 W g f0 f1 f2) (hw : Below W.heap.size W W1) : IsS28 w0 W1 g f0 f1 f2 := h.grown (grown_of_below hw none) (by simp)
theorem IsS28.alloc {w0 W : World} {g : Nat} {f0 : ByteArray} {f1 : List Int} {f2 : Int} (h : IsS28 w0 W g f0 f1 f2) (o : Obj) : IsS28 w0 (W.alloc o) g f0 f1 f2 := h.below (below_alloc (Below.refl _ _) o)
theorem IsS28.drewN {w0 W : World} {g : Nat} {f0 : ByteArray} {f1 : List Int} {f2 : Int} (h : IsS28 w0 W g f0 f1 f2) (m : Nat) : IsS28 w0 (W.drewN m) g f0 f1 f2 := h
theorem IsS28.drew {w0 W : World} {g : Nat} {f0 : ByteArray} {f1 : List Int} {f2 : Int} (h : IsS28 w0 W g f0 f1 f2) : IsS28 w0 W.drew g f0 f1 f2 := h
theorem IsS28.at_ {w0 W : World} {g : Nat} {f0 : ByteArray} {f1 : List Int} {f2 : Int} {w' : World} {m : Nat} (hq : W.drewN m = w') (h : IsS28 w0 W g f0 f1 f2) : IsS28 w0 w' g f0 f1 f2 := by subst hq; exact IsS28.drewN h m
theorem IsS28.apart {w0 W : World} {g : Nat} {f0 : ByteArray} {f1 : List Int} {f2 : Int} {α : Type} {d : Kd α} {e : Nat} {base : Nat} {ok : Nat → Prop} {v : Value} {xs : List α} (h : IsS28 w0 W g f0 f1 f2) (ho : d.R e W base ok v xs) (ht : ∀ q, q ∈ e :: d.E → q ≠ 28) : d.R e W base (fun k => ok k ∧ k ≠ g) v xs := by
  obtain ⟨A1, c1, hb, hg, hr1⟩ := h
  exact Kd.R_types ho hb ht
theorem IsS28.own_ne {w0 W : World} {g : Nat} {f0 : ByteArray} {f1 : List Int} {f2 : Int} {α : Type} {d : Kd α} {e : Nat} {base : Nat} {ok : Nat → Prop} {v : Value} {xs : List α} (h : IsS28 w0 W g f0 f1 f2) (ho : d.R e W base ok v xs) (ht : e ≠ 28) : some g ≠ v.ownBlock := by
  obtain ⟨A1, c1, hb, hg, hr1⟩ := h
  exact Kd.R_ne ho hb ht
theorem IsS28.apartQ {w0 W : World} {g : Nat} {f0 : ByteArray} {f1 : List Int} {f2 : Int} {α : Type} {d : Kd α} {e : Nat} {base : Nat} {ok : Nat → Prop} {v : Value} {xs : List α} (h : IsS28 w0 W g f0 f1 f2) (ho : d.Q e W base ok v xs) (ht : ∀ q, q ∈ e :: d.E → q ≠ 28) : d.Q e W base (fun k => ok k ∧ k ≠ g) v xs := by
  obtain ⟨A1, c1, hb, hg, hr1⟩ := h
  exact Kd.Q_types ho hb ht
theorem IsS28.own_neQ {w0 W : World} {g : Nat} {f0 : ByteArray} {f1 : List Int} {f2 : Int} {α : Type} {d : Kd α} {e : Nat} {base : Nat} {ok : Nat → Prop} {v : Value} {xs : List α} (h : IsS28 w0 W g f0 f1 f2) (ho : d.Q e W base ok v xs) (ht : e ≠ 28) : some g ≠ v.ownBlock := by
  obtain ⟨A1, c1, hb, hg, hr1⟩ := h
  exact Kd.Q_ne ho hb ht
theorem IsS28.apartS {w0 W : World} {g : Nat} {f0 : ByteArray} {f1 : List Int} {f2 : Int} {α : Type} {d : Kd α} {e : Nat} {base : Nat} {ok : Nat → Prop} {v : Value} {xs : List α} (h : IsS28 w0 W g f0 f1 f2) (ho : d.S e W base ok v xs) (ht : ∀ q, q ∈ e :: d.E → q ≠ 28) : d.S e W base (fun k => ok k ∧ k ≠ g) v xs := by
  obtain ⟨A1, c1, hb, hg, hr1⟩ := h
  exact Kd.S_types ho hb ht
theorem IsS28.own_neS {w0 W : World} {g : Nat} {f0 : ByteArray} {f1 : List Int} {f2 : Int} {α : Type} {d : Kd α} {e : Nat} {base : Nat} {ok : Nat → Prop} {v : Value} {xs : List α} (h : IsS28 w0 W g f0 f1 f2) (ho : d.S e W base ok v xs) (ht : e ≠ 28) : some g ≠ v.ownBlock := by
  obtain ⟨A1, c1, hb, hg, hr1⟩ := h
  exact Kd.S_ne ho hb ht
theorem IsS28.lt {w0 W : World} {g : Nat} {f0 : ByteArray} {f1 : List Int} {f2 : Int} (h : IsS28 w0 W g f0 f1 f2) : g < W.heap.size := by
  obtain ⟨A1, c1, hb, hg, hr1⟩ := h
  exact blk_lt hb
theorem IsS28.ge {w0 W : World} {g : Nat} {f0 : ByteArray} {f1 : List Int} {f2 : Int} (h : IsS28 w0 W g f0 f1 f2) : w0.heap.size ≤ g := by
  obtain ⟨A1, c1, hb, hg, hr1⟩ := h
  exact hg
theorem IsS28.ne_blk {w0 W : World} {g : Nat} {f0 : ByteArray} {f1 : List Int} {f2 : Int} {a : Nat} {cs : Array Value} {t : TypeId} {fr : Nat × Nat} (h : IsS28 w0 W g f0 f1 f2) (hb2 : W.heap[a]? = some (.cells cs t fr)) (ht : t ≠ 28) : g ≠ a := by
  obtain ⟨A1, c1, hb, hg, hr1⟩ := h
  rintro rfl
  rw [hb] at hb2
  injection hb2 with hb2
  injection hb2 with _ ht2
  exact ht ht2.symm
theorem IsS28.far {w0 W : World} {g : Nat} {f0 : ByteArray} {f1 : List Int} {f2 : Int} {p : Addr} (h : IsS28 w0 W g f0 f1 f2) (hne : g ≠ p.block) (u : Value) : IsS28 w0 (W.setCell p u) g f0 f1 f2 := by
  obtain ⟨A1, c1, hb, hg, hr1⟩ := h
  exact ⟨A1, c1, blk_far hb hne u, hg, hr1⟩
theorem cellS28_0 {W : World} {g : Nat} {A1 : Option Addr} {c1 : Nat} {f0 : ByteArray} {f1 : List Int} {f2 : Int} (h : W.heap[g]? = some (.cells #[.string f0, .slice A1 f1.length c1, .int .i64 f2] 28 (0, 0))) : W.cell? ⟨g, 0, none⟩ = some (.string f0) := (blk_cell h 0).trans rfl
theorem IsS28.set_0 {w0 W : World} {g : Nat} {f0 : ByteArray} {f1 : List Int} {f2 : Int} (h : IsS28 w0 W g f0 f1 f2) (x : ByteArray) : IsS28 w0 (W.setCell ⟨g, 0, none⟩ (.string x)) g x f1 f2 := by
  obtain ⟨A1, c1, hb, hg, hr1⟩ := h
  exact ⟨A1, c1, by simpa using blk_set hb 0 (.string x), hg, hr1⟩
theorem cellS28_1 {W : World} {g : Nat} {A1 : Option Addr} {c1 : Nat} {f0 : ByteArray} {f1 : List Int} {f2 : Int} (h : W.heap[g]? = some (.cells #[.string f0, .slice A1 f1.length c1, .int .i64 f2] 28 (0, 0))) : W.cell? ⟨g, 1, none⟩ = some (.slice A1 f1.length c1) := (blk_cell h 1).trans rfl
theorem cellS28_2 {W : World} {g : Nat} {A1 : Option Addr} {c1 : Nat} {f0 : ByteArray} {f1 : List Int} {f2 : Int} (h : W.heap[g]? = some (.cells #[.string f0, .slice A1 f1.length c1, .int .i64 f2] 28 (0, 0))) : W.cell? ⟨g, 2, none⟩ = some (.int .i64 f2) := (blk_cell h 2).trans rfl
theorem IsS28.set_2 {w0 W : World} {g : Nat} {f0 : ByteArray} {f1 : List Int} {f2 : Int} (h : IsS28 w0 W g f0 f1 f2) (x : Int) : IsS28 w0 (W.setCell ⟨g, 2, none⟩ (.int .i64 x)) g f0 f1 x := by
  obtain ⟨A1, c1, hb, hg, hr1⟩ := h
  exact ⟨A1, c1, by simpa using blk_set hb 2 (.int .i64 x), hg, hr1⟩
theorem IsS28.new (w0 W : World) (A1 : Option Addr) (c1 : Nat) (f0 : ByteArray) (f1 : List Int) (f2 : Int) (hB : Below w0.heap.size w0 W) (hr1 : Kd.C (Kd.int .i64) w0 A1 f1.length f1) : IsS28 w0 (W.alloc (.cells #[.string f0, .slice A1 f1.length c1, .int .i64 f2] 28)) W.heap.size f0 f1 f2 := ⟨A1, c1, by simpa using heap_alloc_new W _, hB.size, hr1⟩

/-! ### spec_l26One: function 43, by hand -/
section
open Go.Proofs.Ytnmfndfldhgaeaa.Base
/-- A name: 1 to 12 letters, digits and '-', a letter first. -/
def nameByte (b : Int) : Bool := decide ((97 ≤ b ∧ b ≤ 122) ∨ (48 ≤ b ∧ b ≤ 57) ∨ b = 45)
def isNameB (s : ByteArray) : Bool := decide (0 < s.size ∧ s.size ≤ 12 ∧ 97 ≤ bt s 0 ∧ bt s 0 ≤ 122) && (List.range s.size).all fun i => nameByte (bt s i)
theorem size_toList (s : ByteArray) : s.toList.length = s.size := by rw [ByteArray.toList_eq, Array.length_toList]; rfl
theorem name_loop_spec (s : ByteArray) (h : s.size ≤ 12) : Ev (fun k => spec_IsName.l0 k s 0) ((List.range s.size).all fun i => nameByte (bt s i)) := by
  have := all_lt s.size (fun i => nameByte (bt s i)) (fun k i => spec_IsName.l0 k s i) true false (fun i hi hp => ⟨0, fun k _ => ?_⟩) (fun i hi hp => Ev.const fun k => ?_) (fun _ => Ev.const fun k => ?_)
  · rw [ite_bool] at this
    exact this
  · have hp := of_decide_eq_true hp
    simp only [spec_IsName.l0, spec_l01Small.f, spec_l01Digit.f]
    rw [if_pos (by omega), if_pos (by omega), w64 (by omega) (by omega)]
    by_cases h1 : bt s i ≥ 97
    · rw [if_pos h1]
      simp only [Option.bind_some, decide_eq_true_eq]
      by_cases h2 : bt s i ≤ 122
      · rw [if_pos h2]
      · exfalso; omega
    · rw [if_neg h1]
      simp only [Option.bind_some, Bool.false_eq_true, if_false]
      by_cases h3 : bt s i ≥ 48
      · rw [if_pos h3]
        simp only [Option.bind_some, decide_eq_true_eq]
        rw [if_pos (by omega)]
      · rw [if_neg h3]
        simp only [Option.bind_some, Bool.false_eq_true, if_false]
        rw [if_pos (by omega)]
  · have hp := of_decide_eq_false hp
    simp only [spec_IsName.l0, spec_l01Small.f, spec_l01Digit.f]
    rw [if_pos (by omega), if_pos (by omega)]
    by_cases h1 : bt s i ≥ 97
    · rw [if_pos h1, if_pos (by omega)]
      simp only [Option.bind_some, decide_eq_true_eq]
      rw [if_neg (by omega), if_neg (by omega), if_neg (by omega)]
    · rw [if_neg h1]
      simp only [Option.bind_some, Bool.false_eq_true, if_false]
      by_cases h3 : bt s i ≥ 48
      · rw [if_pos h3]
        simp only [Option.bind_some, decide_eq_true_eq]
        rw [if_neg (by omega), if_neg (by omega)]
      · rw [if_neg h3]
        simp only [Option.bind_some, Bool.false_eq_true, if_false]
        rw [if_neg (by omega)]
  · simp only [spec_IsName.l0]
    rw [if_neg (by omega)]
theorem name_j0 (s : ByteArray) (k : Nat) : spec_IsName.j0 (k + 1) s true = some false := by simp only [spec_IsName.j0, if_true]
theorem name_spec (s : ByteArray) : Ev (fun k => spec_IsName.f k s) (isNameB s) := by
  unfold isNameB
  by_cases h0 : s.size = 0
  · rw [decide_eq_false (by omega), Bool.false_and]
    refine Ev.const fun k => ?_
    unfold spec_IsName.f
    rw [if_pos (List.eq_nil_of_length_eq_zero (by rw [size_toList, h0]))]
    exact name_j0 s k
  · have hne : ¬ s.toList = ([] : List UInt8) := fun h => h0 (by rw [← size_toList, h]; rfl)
    by_cases h12 : s.size ≤ 12
    · by_cases hs : 97 ≤ bt s 0 ∧ bt s 0 ≤ 122
      · rw [decide_eq_true ⟨by omega, h12, hs⟩, Bool.true_and]
        refine Ev.step (f := fun k => spec_IsName.l0 k s 0) (fun k => ?_) (name_loop_spec s h12)
        simp only [spec_IsName.f, spec_l01Small.f]
        rw [if_neg hne, if_neg (by omega), if_pos (by omega), if_pos (by omega)]
        simp only [Option.bind_some]
        rw [decide_eq_true hs.2]
        simp only [Bool.not_true, spec_IsName.j0, Bool.false_eq_true, if_false]
      · rw [decide_eq_false (fun h => hs h.2.2), Bool.false_and]
        refine Ev.const fun k => ?_
        simp only [spec_IsName.f, spec_l01Small.f]
        rw [if_neg hne, if_neg (by omega), if_pos (by omega)]
        by_cases h1 : bt s 0 ≥ 97
        · rw [if_pos h1]
          simp only [Option.bind_some]
          rw [decide_eq_false (by omega)]
          exact name_j0 s k
        · rw [if_neg h1]
          exact name_j0 s k
    · rw [decide_eq_false (by omega), Bool.false_and]
      refine Ev.const fun k => ?_
      unfold spec_IsName.f
      rw [if_neg hne, if_pos (by omega)]
      exact name_j0 s k

theorem in_calls (a b c : Int) (r : Bool) (h : r = decide (b ≤ a ∧ a ≤ c)) (w : World) : Calls Try.prog 51 #[.int .i64 a, .int .i64 b, .int .i64 c] w fun e w' => e = .returned (.bool r) ∧ ∃ m, w' = w.drewN m := by
  refine (spec_l00In.calls a b c r w ?_).mono fun e w' ⟨he, ⟨hm⟩⟩ => ⟨he, hm⟩
  unfold spec_l00In.f
  by_cases hh : a ≥ b
  · rw [if_pos hh, h]; congr 1; apply Bool.eq_iff_iff.mpr; simp; omega
  · rw [if_neg hh, h]; congr 1; symm; simp; omega
def shiftOk (m : Int) : Bool := decide (0 ≤ m ∧ m ≤ 1440)
def handV (f0 : ByteArray) (f1 : List Int) (f2 : Int) : Bool := f1.all shiftOk && isNameB f0 && decide (f1.length ≤ 14) && decide (0 ≤ f2 ∧ f2 ≤ 100000)
theorem hand_no {f0 : ByteArray} {f1 : List Int} {f2 : Int} {i : Nat} (h : i < f1.length) (hf : shiftOk (rd f1 (i : Int)) = false) : handV f0 f1 f2 = false := by
  unfold handV
  have : f1.all shiftOk = false := by
    rw [List.all_eq_false]
    rw [rd_nat f1 i h] at hf
    exact ⟨f1[i], List.getElem_mem h, by simp [hf]⟩
  rw [this]; rfl
theorem hand_yes {f0 : ByteArray} {f1 : List Int} {f2 : Int} (h : ∀ j, j < f1.length → shiftOk (rd f1 (j : Int)) = true) : handV f0 f1 f2 = (isNameB f0 && decide (f1.length ≤ 14) && decide (0 ≤ f2 ∧ f2 ≤ 100000)) := by
  unfold handV
  have : f1.all shiftOk = true := by
    rw [List.all_eq_true]
    intro x hx
    obtain ⟨i, hi, rfl⟩ := List.getElem_of_mem hx
    rw [← rd_nat f1 i hi]
    exact h i hi
  rw [this]; rfl
set_option maxHeartbeats 8000000 in
set_option maxRecDepth 100000 in
theorem spec_l26One.at_ (ad : Addr) (f0 : ByteArray) (A : Option Addr) (c : Nat) (f1 : List Int) (f2 : Int) (w : World) (c0 : w.cell? ad = some (.string f0)) (c1 : w.cell? ⟨ad.block, ad.off + 1, none⟩ = some (.slice A f1.length c))
    (c2 : w.cell? ⟨ad.block, ad.off + 2, none⟩ = some (.int .i64 f2)) (hr : Kd.C (Kd.int .i64) w A f1.length f1) :
    Calls Try.prog 43 #[.pointer (some ad)] w fun e w' => e = .returned (.bool (handV f0 f1 f2)) ∧ Drawn0 w w' := by
  obtain ⟨k, hk⟩ := (name_spec f0).rounds
  have I1 : Aside0 (∀ w, Calls Try.prog 66 #[.string f0] w fun e w' => e = .returned (.bool (isNameB f0)) ∧ ∃ m, w' = w.drewN m) := ⟨fun w => (spec_IsName.calls k f0 _ w hk).mono fun e w' ⟨he, ⟨hm⟩⟩ => ⟨he, hm⟩⟩
  clear hk k
  have I2 := Aside0.mk (fun b h => in_calls f2 0 100000 b h)
  have hm := Kd.C_max hr
  have HR := Aside0.mk hr
  have C0 := Aside0.mk c0
  have C1 := Aside0.mk c1
  have C2 := Aside0.mk c2
  clear hr c0 c1 c2
  go_enter Try.func43, Try.ntmps43
  go_wp2
  go_loopw [3] (fun v3 w' => ∃ i : Nat, v3 = .int .i64 i ∧ i ≤ f1.length ∧ Aside0 (∀ j, j < i → shiftOk (rd f1 (j : Int)) = true) ∧ Aside0 (Drawn0 w w')) (fun v3 _ => f1.length - (intOf v3).toNat)
  case atStart => exact ⟨0, rfl, Nat.zero_le _, ⟨fun j hj => absurd hj (Nat.not_lt_zero _)⟩, ⟨Drawn0.refl _⟩⟩
  case round =>
    obtain ⟨i, rfl, hi, hf, hw⟩ := hrel
    have hb := Drawn0.below hw.out
    have c0 := pw_cell_below hb C0.out
    have c1 := pw_cell_below hb C1.out
    have c2 := pw_cell_below hb C2.out
    have hr := Kd.C_below HR.out hb
    clear hb
    by_cases hlt : i < f1.length
    · have p1 : (0 : Int) ≤ (i : Int) := Int.natCast_nonneg i
      have p2 : (i : Int) < (f1.length : Int) := Int.ofNat_lt.2 hlt
      obtain ⟨ad1, rfl, hx⟩ := Kd.at_int hr (i : Int) p1 p2
      rw [Int.toNat_natCast] at hx
      have I3 := Aside0.mk (fun b h => in_calls (rd f1 (i : Int)) 0 1440 b h)
      cases hv : shiftOk (rd f1 (i : Int)) with
      | false =>
        have I4 := Aside0.mk (I3.out false hv.symm)
        have HV := Aside0.mk hv
        clear I3 hv
        go_wp2_with (go_at_call 51; (with_reducible refine (I4.out _).mono ?_); rintro e w' ⟨rfl, q, rfl⟩)
        go_ret
        exact ⟨by rw [hand_no hlt HV.out]; rfl, Drawn0.step hw.out _⟩
      | true =>
        have I4 := Aside0.mk (I3.out true hv.symm)
        have HV := Aside0.mk hv
        clear I3 hv
        go_wp2_with (go_at_call 51; (with_reducible refine (I4.out _).mono ?_); rintro e w' ⟨rfl, q, rfl⟩)
        go_roundw
        case rel =>
          exact ⟨i + 1, by go_num, by omega, ⟨fun j hj => by
            by_cases hji : j = i
            · subst hji; exact HV.out
            · exact hf.out j (by omega)⟩, ⟨Drawn0.step hw.out _⟩⟩
        case measure => simp [intOf]; omega
    · have he := hand_yes (f0 := f0) (f2 := f2) (fun j hj => hf.out j (by omega))
      generalize hb2 : decide (0 ≤ f2 ∧ f2 ≤ 100000) = b2
      replace I2 := Aside0.mk (I2.out b2 hb2.symm)
      have HB2 := Aside0.mk hb2
      clear hb2
      generalize isNameB f0 = b1 at *
      have p3 : decide ((f1.length : Int) ≤ 14) = decide (f1.length ≤ 14) := by
        by_cases h : f1.length ≤ 14
        · rw [decide_eq_true h, decide_eq_true (by omega)]
        · rw [decide_eq_false h, decide_eq_false (by omega)]
      generalize decide (f1.length ≤ 14) = b3 at *
      have HE := Aside0.mk he
      clear he
      cases b1 <;> cases b3 <;> cases b2
      all_goals
        go_wp2_with (first | (go_at_call 51; (with_reducible refine (I2.out _).mono ?_); rintro e w' ⟨rfl, q, rfl⟩) | (go_at_call 66; (with_reducible refine (I1.out _).mono ?_); rintro e w' ⟨rfl, q, rfl⟩))
        go_ret
        exact ⟨by rw [HE.out, HB2.out]; rfl, by first | exact Drawn0.step hw.out _ | exact Drawn0.step (Drawn0.step hw.out _) _⟩
def spec_l26One.f (s0_0 : ByteArray) (s0_1 : List Int) (s0_2 : Int) : Option (Bool × ByteArray × Int) := some (handV s0_0 s0_1 s0_2, s0_0, s0_2)
theorem spec_l26One.calls (g : Nat) (s0_0 : ByteArray) (s0_1 : List Int) (s0_2 : Int) (r1 : Bool) (r2 : ByteArray) (r3 : Int) (w0 w : World) (hI : IsS28 w0 w g s0_0 s0_1 s0_2) (hB : Below w0.heap.size w0 w) (h : spec_l26One.f s0_0 s0_1 s0_2 = some (r1, r2, r3)) :
    Calls Try.prog 43 #[.pointer (some ⟨g, 0, none⟩)] w fun e w' => e = .returned (.bool r1) ∧ IsS28 w0 w' g r2 s0_1 r3 ∧ Below w0.heap.size w0 w' ∧ KeepBut w w' g none := by
  simp only [spec_l26One.f, Option.some.injEq, Prod.mk.injEq] at h
  obtain ⟨rfl, rfl, rfl⟩ := h
  have hI2 := hI
  obtain ⟨A, c, hb, hg, hr⟩ := hI
  refine (spec_l26One.at_ ⟨g, 0, none⟩ s0_0 A c s0_1 s0_2 w (cellS28_0 hb) (cellS28_1 hb) (cellS28_2 hb) (Kd.C_below hr hB)).mono fun e w' ⟨he, ⟨hd⟩⟩ => ?_
  obtain ⟨n, rfl⟩ := hd
  exact ⟨he, IsS28.drewN hI2 n, pw_below_drewN hB n, keep_drewN (KeepBut.refl w g none) n⟩
end


/-! ### spec_LongestStreak: function 19, by hand -/
section
open Go.Proofs.Ytnmfndfldhgaeaa.Base
def stk1 (s : Int × Int × Int) (x i : Int) : Int × Int × Int := if x = 0 then (s.1, s.2.1, 0) else if s.2.1 < s.2.2 + 1 then (i + 1 - (s.2.2 + 1), s.2.2 + 1, s.2.2 + 1) else (s.1, s.2.1, s.2.2 + 1)
def stkS (l : List Int) : Nat → Int × Int × Int
  | 0 => (0, 0, 0)
  | i + 1 => stk1 (stkS l i) (rd l (i : Int)) i
theorem stk_bd (l : List Int) : ∀ i : Nat, 0 ≤ (stkS l i).1 ∧ (stkS l i).1 ≤ i ∧ 0 ≤ (stkS l i).2.1 ∧ (stkS l i).2.1 ≤ i ∧ 0 ≤ (stkS l i).2.2 ∧ (stkS l i).2.2 ≤ i
  | 0 => by simp [stkS]
  | i + 1 => by
    have h := stk_bd l i
    simp only [stkS, stk1]
    generalize stkS l i = s at h ⊢
    split
    · simp only []; omega
    · split <;> (simp only []; omega)
theorem stk_zero {l : List Int} {i : Nat} {b m n : Int} (h : stkS l i = (b, m, n)) (hx : rd l (i : Int) = 0) : stkS l (i + 1) = (b, m, 0) := by simp only [stkS, stk1, h, if_pos hx]
theorem stk_more {l : List Int} {i : Nat} {b m n : Int} (h : stkS l i = (b, m, n)) (hx : ¬ rd l (i : Int) = 0) (hm : m < n + 1) : stkS l (i + 1) = (i + 1 - (n + 1), n + 1, n + 1) := by simp only [stkS, stk1, h, if_neg hx, if_pos hm]
theorem stk_same {l : List Int} {i : Nat} {b m n : Int} (h : stkS l i = (b, m, n)) (hx : ¬ rd l (i : Int) = 0) (hm : ¬ m < n + 1) : stkS l (i + 1) = (b, m, n + 1) := by simp only [stkS, stk1, h, if_neg hx, if_neg hm]
def stkAns (f1 : List Int) : Int × Int × Int := if (stkS f1 f1.length).2.1 = 0 then (0, 0, 3) else ((stkS f1 f1.length).1, (stkS f1 f1.length).2.1, 0)
def spec_LongestStreak.f (a0_0 : ByteArray) (l0_1 : List Int) (a0_2 : Int) : Option (Int × Int × Int) := if handV a0_0 l0_1 a0_2 = true then some (stkAns l0_1) else some (0, 0, 1)
set_option maxHeartbeats 8000000 in
set_option maxRecDepth 100000 in
theorem spec_LongestStreak.calls (a0_0 : ByteArray) (A0_1 : Option Addr) (c0_1 : Nat) (l0_1 : List Int) (a0_2 : Int) (r1 : Int) (r2 : Int) (r3 : Int) (w : World) (hr0_1 : Kd.C (Kd.int .i64) w A0_1 l0_1.length l0_1) (hc0_1 : l0_1.length ≤ c0_1) (h : spec_LongestStreak.f a0_0 l0_1 a0_2 = some (r1, r2, r3)) :
    Calls Try.prog 19 #[.agg #[.string a0_0, .slice A0_1 l0_1.length c0_1, .int .i64 a0_2]] w fun e w' => e = .returned (.tuple #[.int .i64 r1, .int .i64 r2, .int .i64 r3]) ∧ Below w.heap.size w w' := by
  have hmx := Kd.C_max hr0_1
  have HR := Aside0.mk hr0_1
  have HC := Aside0.mk hc0_1
  clear hr0_1 hc0_1
  unfold spec_LongestStreak.f at h
  cases hv : handV a0_0 l0_1 a0_2 with
  | false =>
    rw [hv] at h
    simp only [Bool.false_eq_true, if_false, Option.some.injEq, Prod.mk.injEq] at h
    obtain ⟨rfl, rfl, rfl⟩ := h
    have HV := Aside0.mk hv
    clear hv
    go_enter Try.func19, Try.ntmps19
    go_wp2_with (first | ((with_reducible refine gate_dst (N := 1) rfl ?_); refine box_event ?hg (N := 1) ?hd (cs := #[.string a0_0, .slice A0_1 l0_1.length c0_1, .int .i64 a0_2]) (t := 28) ?hr ?_; (case hd => rfl); (case hg => rfl); (case hr => first | (go_simp; done) | (go_simp; rfl)); intro gb hg w2 hbox hb; clear hg; have BK := Aside0.mk hbox; have HB := Aside0.mk hb; clear hbox hb) | (go_at_call 43; refine Calls.mono (spec_l26One.at_ ⟨gb, 0, none⟩ a0_0 A0_1 c0_1 l0_1 a0_2 _ (cellS28_0 BK.out) (cellS28_1 BK.out) (cellS28_2 BK.out) (Kd.C_below HR.out HB.out)) ?_; rw [HV.out]; rintro e w3 ⟨rfl, ⟨⟨q, rfl⟩⟩⟩))
    go_ret3
    exact ⟨rfl, pw_below_drewN HB.out _⟩
  | true =>
    rw [hv] at h
    simp only [if_true, Option.some.injEq] at h
    have HA := Aside0.mk h
    have HV := Aside0.mk hv
    clear hv h
    go_enter Try.func19, Try.ntmps19
    go_wp2_with (first | ((with_reducible refine gate_dst (N := 1) rfl ?_); refine box_event ?hg (N := 1) ?hd (cs := #[.string a0_0, .slice A0_1 l0_1.length c0_1, .int .i64 a0_2]) (t := 28) ?hr ?_; (case hd => rfl); (case hg => rfl); (case hr => first | (go_simp; done) | (go_simp; rfl)); intro gb hg w2 hbox hb; clear hg; have BK := Aside0.mk hbox; have HB := Aside0.mk hb; clear hbox hb) | (go_at_call 43; refine Calls.mono (spec_l26One.at_ ⟨gb, 0, none⟩ a0_0 A0_1 c0_1 l0_1 a0_2 _ (cellS28_0 BK.out) (cellS28_1 BK.out) (cellS28_2 BK.out) (Kd.C_below HR.out HB.out)) ?_; rw [HV.out]; rintro e w3 ⟨rfl, ⟨⟨q, rfl⟩⟩⟩))
    go_loopw [5, 6, 7, 8] (fun v5 v6 v7 v8 w' => ∃ (i : Nat) (b m n : Int), v5 = .int .i64 b ∧ v6 = .int .i64 m ∧ v7 = .int .i64 n ∧ v8 = .int .i64 i ∧ i ≤ l0_1.length ∧ Aside0 (stkS l0_1 i = (b, m, n)) ∧ Aside0 (∃ q, w' = w2.drewN q)) (fun _ _ _ v8 _ => l0_1.length - (intOf v8).toNat)
    case atStart => exact ⟨0, 0, 0, 0, rfl, rfl, rfl, rfl, Nat.zero_le _, ⟨rfl⟩, ⟨⟨_, rfl⟩⟩⟩
    case round =>
      obtain ⟨i, b, m, n, rfl, rfl, rfl, rfl, hi, hs, hw⟩ := hrel
      obtain ⟨q3, rfl⟩ := hw.out
      have hcell := cellS28_1 BK.out
      have hr := Kd.C_below HR.out (pw_below_drewN HB.out q3)
      have hbd := stk_bd l0_1 i
      rw [hs.out] at hbd
      simp only [] at hbd
      obtain ⟨b0, b1, m0, m1, n0, n1⟩ := hbd
      by_cases hlt : i < l0_1.length
      · have p1 : (0 : Int) ≤ (i : Int) := Int.natCast_nonneg i
        have p2 : (i : Int) < (l0_1.length : Int) := Int.ofNat_lt.2 hlt
        obtain ⟨ad1, rfl, hx⟩ := Kd.at_int hr (i : Int) p1 p2
        rw [Int.toNat_natCast] at hx
        have z1 := Aside0.mk (fun h => stk_zero hs.out h)
        have z2 := Aside0.mk (fun h => stk_more hs.out h)
        have z3 := Aside0.mk (fun h => stk_same hs.out h)
        generalize rd l0_1 (i : Int) = x at *
        by_cases hx0 : x = 0
        · subst hx0
          have Z := Aside0.mk (z1.out rfl)
          have p4 : ¬ m < 0 := by omega
          clear z1 z2 z3
          go_wp2
          go_roundw
          case rel => exact ⟨i + 1, b, m, 0, rfl, rfl, rfl, by go_num, by omega, Z, ⟨⟨_, rfl⟩⟩⟩
          case measure => simp [intOf]; omega
        · have p3 : (x == 0) = false := by simpa using hx0
          by_cases hm : m < n + 1
          · have Z := Aside0.mk (z2.out hx0 hm)
            clear z1 z2 z3
            go_wp2
            go_roundw
            case rel => exact ⟨i + 1, _, _, _, rfl, rfl, rfl, by go_num, by omega, Z, ⟨⟨_, rfl⟩⟩⟩
            case measure => simp [intOf]; omega
          · have Z := Aside0.mk (z3.out hx0 hm)
            clear z1 z2 z3
            go_wp2
            go_roundw
            case rel => exact ⟨i + 1, _, _, _, rfl, rfl, rfl, by go_num, by omega, Z, ⟨⟨_, rfl⟩⟩⟩
            case measure => simp [intOf]; omega
      · obtain rfl : i = l0_1.length := by omega
        have he := HA.out
        unfold stkAns at he
        rw [hs.out] at he
        simp only [] at he
        by_cases hm0 : m = 0
        · rw [if_pos hm0] at he
          have HE := Aside0.mk he
          clear he
          subst hm0
          go_wp2
          go_ret3
          have := HE.out
          simp only [Prod.mk.injEq] at this
          obtain ⟨rfl, rfl, rfl⟩ := this
          exact ⟨rfl, pw_below_drewN HB.out _⟩
        · rw [if_neg hm0] at he
          have HE := Aside0.mk he
          clear he
          have p3 : (m == 0) = false := by simpa using hm0
          go_wp2
          go_ret3
          have := HE.out
          simp only [Prod.mk.injEq] at this
          obtain ⟨rfl, rfl, rfl⟩ := this
          exact ⟨rfl, pw_below_drewN HB.out _⟩
end


/-! ### impl_within: function 50 -/
def impl_within.f (a0 : Int) (a1 : Int) (a2 : Int) : Option (Bool) := if a0 ≥ a1 then (some (decide (a0 ≤ a2))) else (some false)
set_option maxHeartbeats 8000000 in
set_option maxRecDepth 100000 in
theorem impl_within.calls (a0 : Int) (a1 : Int) (a2 : Int) (r : Bool) (w : World) (h : impl_within.f a0 a1 a2 = some r) :
    Calls Try.prog 50 #[.int .i64 a0, .int .i64 a1, .int .i64 a2] w fun e w' => e = .returned (.bool r) ∧ Drawn0 w w' := by
  have H : (if a0 ≥ a1 then (some (decide (a0 ≤ a2))) else (some false)) = some r := h
  clear h
  by_cases c4 : a0 ≥ a1
  · rw [if_pos c4] at H
    have c4b0 : decide (a1 ≤ a0) = true := decide_eq_true c4
    clear c4
    obtain rfl := Option.some.inj H
    go_enter Try.func50, Try.ntmps50
    go_wp2
    go_ret
    exact ⟨by first | rfl | (simp; done) | (simp [*]; done), by repeat (first | exact Drawn0.refl _ | apply Drawn0.step)⟩
  · rw [if_neg c4] at H
    have c4b0 : decide (a1 ≤ a0) = false := decide_eq_false c4
    clear c4
    obtain rfl := Option.some.inj H
    go_enter Try.func50, Try.ntmps50
    go_wp2
    go_ret
    exact ⟨by first | rfl | (simp; done) | (simp [*]; done), by repeat (first | exact Drawn0.refl _ | apply Drawn0.step)⟩

end Go.Proofs.Ytnmfndfldhgaeaa.QFnExactLongestStreak
