import Derived.Test.YtkoeeajciciphaaGreatDoorSq
import Derived.Test.YtkoeeajciciphaaGreatDoorS4
import Derived.Test.YtkoeeajciciphaaGreatDoorQFnExactStartAgainx0
import Derived.Test.YtkoeeajciciphaaGreatDoorQFnExactStartAgainx2
import Derived.Test.YtkoeeajciciphaaGreatDoorQFnExactStartAgainx3
namespace Go.Proofs.YtkoeeajciciphaaGreatDoor.QFnExactStartAgain
open Sq (fl pu_ gl_ b20_ b21_ b30_ b31_ b32_ od_ rr_ be_)
open Sq
open Go.RowKit Go.Proofs.YtkoeeajciciphaaGreatDoorW.PrintWords Go.Proofs.YtkoeeajciciphaaGreatDoorW.PrintLast Go.Proofs.YtkoeeajciciphaaGreatDoorW.PrintMore
attribute [local go_sem] max2_int min2_int max_two min_two max_three min_three max_four min_four
set_option linter.unusedVariables false
set_option linter.unusedSimpArgs false
set_option maxHeartbeats 8000000
set_option maxRecDepth 100000
section
open Go.Proofs.YtkoeeajciciphaaGreatDoor.Base
def cntU (L : Nat → Bool) : Nat → Nat
 | 0 => 0
 | n + 1 => cntU L n + (if L n = true then 0 else 1)
theorem cntU_congr {L M : Nat → Bool} : ∀ n, (∀ j, j < n → L j = M j) → cntU L n = cntU M n
 | 0, _ => rfl
 | n + 1, h => by rw [cntU, cntU, cntU_congr n (fun j hj => h j (by omega)), h n (by omega)]
theorem cntU_set {L : Nat → Bool} {i : Nat} (hL : L i = false) : ∀ n, i < n → cntU (fun j => decide (j = i) || L j) n + 1 = cntU L n
 | 0, h => absurd h (Nat.not_lt_zero _)
 | n + 1, h => by
  rw [cntU, cntU]
  by_cases e : i = n
  ·subst e
   rw [cntU_congr (L := fun j => decide (j = i) || L j) (M := L) i (fun j hj => by simp [Nat.ne_of_lt hj]), hL]
   simp
  ·have := cntU_set hL n (by omega)
   rw [show (decide (n = i) || L n) = L n by rw [decide_eq_false (fun h => e h.symm), Bool.false_or]]
   omega
theorem cntU_zero {L : Nat → Bool} : ∀ n, cntU L n = 0 → ∀ j, j < n → L j = true
 | 0, _, j, h => absurd h (Nat.not_lt_zero _)
 | n + 1, h, j, hj => by
  rw [cntU] at h
  by_cases e : j = n
  ·subst e
   by_cases c : L j = true
   ·exact c
   ·rw [if_neg c] at h; omega
  ·exact cntU_zero n (by omega) j (by omega)
def backB (md : Region.Mode) (ops : Array Oper) : Bool := (List.range ops.size).all fun i => ((ops[i]?).map (fun o => o.after.all fun e => !Region.binds md e || decide (e.on < i))).getD true
section
variable {P : Program} {ops : Array Oper} {Q : Exit → Act → World → Prop} {md : Region.Mode}
theorem ready_spec {l : Array Bool} {i : Nat} : i ∈ Region.ready md ops l ↔ i < ops.size ∧ l.getD i true = false ∧ ∀ o, ops[i]? = some o → ∀ e ∈ o.after, Region.binds md e = true → l.getD e.on false = true := by
 unfold Region.ready
 rw [List.mem_filter, List.mem_range]
 constructor
 ·rintro ⟨h1, h2⟩
  rw [Bool.and_eq_true] at h2
  refine ⟨h1, by simpa using h2.1, fun o ho e he hb => ?_⟩
  rw [ho] at h2
  simp only [Option.map_some, Option.getD_some] at h2
  have := Array.all_eq_true_iff_forall_mem.1 h2.2 e he
  rw [hb] at this
  simpa using this
 ·rintro ⟨h1, h2, h3⟩
  refine ⟨h1, ?_⟩
  rw [h2]
  obtain ⟨o, ho⟩ : ∃ o, ops[i]? = some o := ⟨ops[i], Array.getElem?_eq_getElem h1⟩
  rw [ho]
  simp only [Bool.not_false, Bool.true_and, Option.map_some, Option.getD_some]
  refine Array.all_eq_true_iff_forall_mem.2 fun e he => ?_
  by_cases hb : Region.binds md e = true
  ·rw [h3 o ho e he hb]; simp
  ·simp [hb]
theorem all_up {l : Array Bool} (hs : l.size = ops.size) (hb : backB md ops = true) (hr : Region.ready md ops l = []) : ∀ j, l.getD j true = true := by
 have key : ∀ n j, j < n → j < ops.size → l.getD j true = true := by
  intro n
  induction n with
  | zero => intro j h; exact absurd h (Nat.not_lt_zero _)
  | succ n ih =>
   intro j hj hlt
   by_cases c : l.getD j true = true
   ·exact c
   ·exfalso
    have hm : j ∈ Region.ready md ops l := by
     refine ready_spec.2 ⟨hlt, by simpa using c, fun o ho e he hbn => ?_⟩
     have h1 := List.all_eq_true.1 hb j (List.mem_range.2 hlt)
     rw [ho] at h1
     simp only [Option.map_some, Option.getD_some] at h1
     have h2 := Array.all_eq_true_iff_forall_mem.1 h1 e he
     rw [hbn] at h2
     have h3 : e.on < j := by simpa using h2
     have h4 := ih e.on (by omega) (by omega)
     rw [Array.getD_eq_getD_getElem?, Array.getElem?_eq_getElem (by omega)] at h4 ⊢
     exact h4
    rw [hr] at hm
    cases hm
 intro j
 by_cases h : j < ops.size
 ·exact key (j + 1) j (by omega) h
 ·rw [Array.getD_eq_getD_getElem?, Array.getElem?_eq_none (by omega)]; rfl
theorem getD_set {l : Array Bool} {i : Nat} (hi : i < l.size) : (fun j => (l.setIfInBounds i true).getD j true) = fun j => decide (j = i) || l.getD j true := by
 funext j
 simp only [Array.getD_eq_getD_getElem?, Array.getElem?_setIfInBounds]
 by_cases h : i = j
 ·subst h; simp [hi]
 ·rw [if_neg h, decide_eq_false (fun e => h e.symm), Bool.false_or]
theorem inv_go (Inv : (Nat → Bool) → Act → World → Prop) (hb : backB md ops = true) (hdone : ∀ a w, Inv (fun _ => true) a w → Q .normal a w)
  (hstep : ∀ (L : Nat → Bool) a w i o, ops[i]? = some o → L i = false → (∀ e ∈ o.after, Region.binds md e = true → L e.on = true) → Inv L a w → wpOp P ops Q i (fun a' w' => Inv (fun j => decide (j = i) || L j) a' w') a w) :
  ∀ (fuel : Nat) (l : Array Bool) (a : Act) (w : World), l.size = ops.size → cntU (fun j => l.getD j true) ops.size ≤ fuel → Inv (fun j => l.getD j true) a w → wpAny P md ops Q fuel l a w
 | 0, l, a, w, hs, hc, hI => by
  have hz := cntU_zero (L := fun j => l.getD j true) ops.size (by omega)
  have ha : (fun j => l.getD j true) = fun _ => true := by
   funext j
   by_cases h : j < ops.size
   ·exact hz j h
   ·show l.getD j true = true
    rw [Array.getD_eq_getD_getElem?, Array.getElem?_eq_none (by omega)]; rfl
  rw [ha] at hI
  refine ⟨?_, hdone a w hI⟩
  refine List.eq_nil_iff_forall_not_mem.2 fun i hi => ?_
  have h1 := (ready_spec.1 hi).2.1
  rw [congrFun ha i] at h1
  cases h1
 | fuel + 1, l, a, w, hs, hc, hI => by
  refine ⟨fun hr => ?_, fun i hi => ?_⟩
  ·have ha : (fun j => l.getD j true) = fun _ => true := funext (all_up hs hb hr)
   rw [ha] at hI
   exact hdone a w hI
  ·obtain ⟨h1, h2, h3⟩ := ready_spec.1 hi
   have hil : i < l.size := by omega
   refine wpOp_mono (fun a' w' h => ?_) (hstep (fun j => l.getD j true) a w i ops[i] (Array.getElem?_eq_getElem h1) h2 (fun e he hbn => ?_) hI)
   ·refine inv_go Inv hb hdone hstep fuel _ a' w' (by simpa using hs) ?_ ?_
    ·rw [getD_set hil]
     have := cntU_set (L := fun j => l.getD j true) h2 ops.size h1
     omega
    ·rw [getD_set hil]
     exact h
   ·have h4 := h3 _ (Array.getElem?_eq_getElem h1) e he hbn
    show l.getD e.on true = true
    rw [Array.getD_eq_getD_getElem?] at h4 ⊢
    cases h5 : l[e.on]? with
    | none => rfl
    | some b => rw [h5] at h4; exact h4
theorem inv_ {id : Nat} {a : Act} {w : World} (Inv : (Nat → Bool) → Act → World → Prop) (hm : P.follows .mixedOrders = true) (hb : backB .any ops = true) (h0 : Inv (fun j => decide (ops.size ≤ j)) a w.drew) (hdone : ∀ a w, Inv (fun _ => true) a w → Q .normal a w)
  (hstep : ∀ (L : Nat → Bool) a w i o, ops[i]? = some o → L i = false → (∀ e ∈ o.after, Region.binds .any e = true → L e.on = true) → Inv L a w → wpOp P ops Q i (fun a' w' => Inv (fun j => decide (j = i) || L j) a' w') a w) :
  (Code.region id ops true).wp P Q a w := by
 refine wp_region_any hm (inv_go Inv hb hdone hstep ops.size _ a _ (by simp) ?_ ?_)
 ·have : ∀ n, cntU (fun j => (Array.replicate ops.size false).getD j true) n ≤ n := by
   intro n
   induction n with
   | zero => exact Nat.le_refl _
   | succ n ih => rw [cntU]; split <;> omega
  exact this _
 ·have e : (fun j => (Array.replicate ops.size false).getD j true) = fun j => decide (ops.size ≤ j) := by
   funext j
   rw [Array.getD_eq_getD_getElem?]
   by_cases h : j < ops.size
   ·rw [Array.getElem?_eq_getElem (by simpa using h)]
    simp [Nat.not_le.2 h]
   ·rw [Array.getElem?_eq_none (by simpa using h)]
    simp [Nat.not_lt.1 h]
  rw [e]
  exact h0
end
structure OwnI (w0 : World) (g gc : Nat) (A0 A1 A2 : Option Addr) (c0 c1 c2 : Nat) (X : RT) (L : Nat → Bool) (s3 s4 s5 s6 s7 s8 s9 s10 s11 s12 s13 s14 s15 s16 s17 s18 s19 s20 s21 : Value) (w : World) : Prop where
 low : Below w0.heap.size w0 w
 m4 : L 1 = true → s4 = .pointer (some ⟨g, 1, none⟩)
 m5 : L 2 = true → s5 = .pointer (some ⟨g, 1, none⟩)
 m6 : L 3 = true → s6 = .pointer (some ⟨g, 1, none⟩)
 m7 : L 4 = true → s7 = .slice A0 X.1.length c0
 m10 : L 7 = true → s10 = .pointer (some ⟨g, 1, none⟩)
 m11 : L 8 = true → s11 = .pointer (some ⟨g, 1, none⟩)
 m12 : L 9 = true → s12 = .pointer (some ⟨g, 2, none⟩)
 m13 : L 10 = true → s13 = .slice A1 X.2.1.length c1
 m16 : L 13 = true → s16 = .pointer (some ⟨g, 1, none⟩)
 m17 : L 14 = true → s17 = .pointer (some ⟨g, 1, none⟩)
 m18 : L 15 = true → s18 = .pointer (some ⟨g, 3, none⟩)
 m19 : L 16 = true → s19 = .slice A2 X.2.2.length c2
 b0 : L 0 = true → L 5 = false → Kd.R k97 97 w w0.heap.size (fun _ => True) s3 ([] : List S97)
 a0 : L 5 = true → Kd.R k97 97 w w0.heap.size (fun _ => True) s8 X.1
 b1 : L 6 = true → L 11 = false → Kd.R Kd.string 9 w w0.heap.size (fun _ => True) s9 ([] : List ByteArray)
 a1 : L 11 = true → Kd.R Kd.string 9 w w0.heap.size (fun _ => True) s14 X.2.1
 b2 : L 12 = true → L 17 = false → Kd.R k101 101 w w0.heap.size (fun _ => True) s15 ([] : List S101)
 a2 : L 17 = true → Kd.R k101 101 w w0.heap.size (fun _ => True) s20 X.2.2
 bd : L 18 = true → s21 = .agg #[s8, s14, s20]
 bw : L 18 = true → L 5 = true ∧ L 11 = true ∧ L 17 = true
 bx : L 19 = true → L 18 = true
 cz : L 19 = false → w.heap[gc]? = some (.cells #[.slice none 0 0, .slice none 0 0, .slice none 0 0] 37 (0, 0))
 ce : L 19 = true → w.heap[gc]? = some (.cells #[s8, s14, s20] 37 (0, 0))
theorem l19Own_at (g : Nat) (A0 A1 A2 : Option Addr) (c0 c1 c2 : Nat) (X : RT) (w : World) (hg0 : w.cell? ⟨g, 1, none⟩ = some (.slice A0 X.1.length c0)) (hg1 : w.cell? ⟨g, 2, none⟩ = some (.slice A1 X.2.1.length c1)) (hg2 : w.cell? ⟨g, 3, none⟩ = some (.slice A2 X.2.2.length c2)) (hr0 : Kd.C k97 w A0 X.1.length X.1) (hr1 : Kd.C Kd.string w A1 X.2.1.length X.2.1) (hr2 : Kd.C k101 w A2 X.2.2.length X.2.2) (hlen : X.1.length ≤ 1048576 ∧ X.2.1.length ≤ 1048576 ∧ X.2.2.length ≤ 1048576) :
  Calls Tryz.prog 72 #[.pointer (some ⟨g, 1, none⟩)] w fun e w' => ∃ v0 v1 v2 : Value, e = .returned (.agg #[v0, v1, v2]) ∧ Kd.R k97 97 w' w.heap.size (fun _ => True) v0 X.1 ∧ Kd.R Kd.string 9 w' w.heap.size (fun _ => True) v1 X.2.1 ∧ Kd.R k101 101 w' w.heap.size (fun _ => True) v2 X.2.2 ∧ Below w.heap.size w w' := by
 obtain ⟨hl0, hl1, hl2⟩ := hlen
 have hu := Tryz.underlying37
 go_enter Tryz.func72, Tryz.ntmps72
 go_upto_region 1 with (first | ((with_reducible refine gd_ 2 rfl ?_); refine be_ 2 #[.slice none 0 0, .slice none 0 0, .slice none 0 0] 37 ?_; intro gc hg w2 hbox hb; have GC := Nat.le_of_eq hg.symm; clear hg) | fail)
 refine inv_ (fun L a w' => ∃ s1 s3 s4 s5 s6 s7 s8 s9 s10 s11 s12 s13 s14 s15 s16 s17 s18 s19 s20 s21 : Value, a = { tmps := #[.pointer (some ⟨g, 1, none⟩), s1, .pointer (some ⟨gc, 0, none⟩), s3, s4, s5, s6, s7, s8, s9, s10, s11, s12, s13, s14, s15, s16, s17, s18, s19, s20, s21], defers := [] } ∧ OwnI w g gc A0 A1 A2 c0 c1 c2 X L s3 s4 s5 s6 s7 s8 s9 s10 s11 s12 s13 s14 s15 s16 s17 s18 s19 s20 s21 w') (by kernel_rfl) (by kernel_rfl) ?h0 ?hdone ?hstep
 case h0 =>
  refine ⟨_, _, _, _, _, _, _, _, _, _, _, _, _, _, _, _, _, _, _, _, rfl, ?_⟩
  exact ⟨below_drew1 hb, fun h => absurd h (by simp), fun h => absurd h (by simp), fun h => absurd h (by simp), fun h => absurd h (by simp), fun h => absurd h (by simp), fun h => absurd h (by simp), fun h => absurd h (by simp), fun h => absurd h (by simp), fun h => absurd h (by simp), fun h => absurd h (by simp), fun h => absurd h (by simp), fun h => absurd h (by simp), fun h => absurd h (by simp), fun h => absurd h (by simp), fun h => absurd h (by simp), fun h => absurd h (by simp), fun h => absurd h (by simp), fun h => absurd h (by simp), fun h => absurd h (by simp), fun h => absurd h (by simp), fun h => absurd h (by simp), fun _ => blk_drew hbox, fun h => absurd h (by simp)⟩
 case hdone =>
  rintro a w9 ⟨s1, s3, s4, s5, s6, s7, s8, s9, s10, s11, s12, s13, s14, s15, s16, s17, s18, s19, s20, s21, rfl, h⟩
  have h0 := h.a0 rfl
  have h1 := h.a1 rfl
  have h2 := h.a2 rfl
  have hc := h.ce rfl
  have hlow := h.low
  clear h
  go_wp2
  refine bodyPost_ret (results_cell_row rfl _ _ gc 37 #[s8, s14, s20] (0, 0) _ rfl hc Tryz.underlying37 rfl (by kernel_rfl)) rfl ?_
  exact ⟨_, _, _, rfl, h0, h1, h2, hlow⟩
 case hstep =>
  intro L a w' i o ho hL hd hI
  have hi : i < 20 := (Array.getElem?_eq_some_iff.1 ho).1
  obtain ⟨s1, s3, s4, s5, s6, s7, s8, s9, s10, s11, s12, s13, s14, s15, s16, s17, s18, s19, s20, s21, rfl, h⟩ := hI
  obtain rfl | rfl | rfl | rfl | rfl | rfl | rfl | rfl | rfl | rfl | rfl | rfl | rfl | rfl | rfl | rfl | rfl | rfl | rfl | rfl : i = 0 ∨ i = 1 ∨ i = 2 ∨ i = 3 ∨ i = 4 ∨ i = 5 ∨ i = 6 ∨ i = 7 ∨ i = 8 ∨ i = 9 ∨ i = 10 ∨ i = 11 ∨ i = 12 ∨ i = 13 ∨ i = 14 ∨ i = 15 ∨ i = 16 ∨ i = 17 ∨ i = 18 ∨ i = 19 := by omega
  ·obtain rfl := Option.some.inj ho
   clear hd
   refine wpOp_step rfl fun K hK => ?_
   refine Kd.R_lit_step k97 _ 97 ?hg (N := 3) ?hd (xs := ([] : List S97)) (inner := []) (ok := fun _ => True) (okp := fun _ => True) ?hr ?hp (fun _ hk => hk) trivial (Below.refl _ _) (Nat.le_refl _) (by simp) ?_
   (case hd => rfl)
   (case hg => rfl)
   (case hr => first | (go_simp; done) | (go_simp; rfl))
   (case hp => exact (Reps.none _ _))
   intro v w1 ho hb hg_ hnew_
   refine hK _ _ ⟨s1, v, s4, s5, s6, s7, s8, s9, s10, s11, s12, s13, s14, s15, s16, s17, s18, s19, s20, s21, (by show Act.put _ (some 3) _ = _; simp only [Act.put, List.setIfInBounds_toArray, List.set_cons_zero, List.set_cons_succ]), ?_⟩
   exact ⟨below_step h.low hb, fun hL => h.m4 (sl_ hL), fun hL => h.m5 (sl_ hL), fun hL => h.m6 (sl_ hL), fun hL => h.m7 (sl_ hL), fun hL => h.m10 (sl_ hL), fun hL => h.m11 (sl_ hL), fun hL => h.m12 (sl_ hL), fun hL => h.m13 (sl_ hL), fun hL => h.m16 (sl_ hL), fun hL => h.m17 (sl_ hL), fun hL => h.m18 (sl_ hL), fun hL => h.m19 (sl_ hL), fun _ _ => Kd.R_lower ho (below_size h.low), fun hL => Kd.R_below (h.a0 (sl_ hL)) hb, fun hL hM => Kd.R_below (h.b1 (sl_ hL) (by simpa using hM)) hb, fun hL => Kd.R_below (h.a1 (sl_ hL)) hb, fun hL hM => Kd.R_below (h.b2 (sl_ hL) (by simpa using hM)) hb, fun hL => Kd.R_below (h.a2 (sl_ hL)) hb, fun hL => h.bd (sl_ hL), fun hL => (h.bw (sl_ hL)).imp (fun h => by simp [h]) (And.imp (fun h => by simp [h]) (fun h => by simp [h])), fun hL => by have := h.bx (sl_ hL); simp [this], fun hL => blk_below (h.cz (sl_ hL)) hb, fun hL => blk_below (h.ce (sl_ hL)) hb⟩
  ·obtain rfl := Option.some.inj ho
   clear hd
   refine wpOp_step rfl fun K hK => ?_
   refine value_ (w1 := w') (v := .pointer (some ⟨g, 1, none⟩)) (by rfl) rfl ?_ ?_
   ·go_simp
    try rfl
   ·refine hK _ _ ⟨s1, s3, (.pointer (some ⟨g, 1, none⟩)), s5, s6, s7, s8, s9, s10, s11, s12, s13, s14, s15, s16, s17, s18, s19, s20, s21, (by show Act.put _ (some 4) _ = _; simp only [Act.put, List.setIfInBounds_toArray, List.set_cons_zero, List.set_cons_succ]), ?_⟩
    exact ⟨h.low, fun _ => rfl, fun hL => h.m5 (sl_ hL), fun hL => h.m6 (sl_ hL), fun hL => h.m7 (sl_ hL), fun hL => h.m10 (sl_ hL), fun hL => h.m11 (sl_ hL), fun hL => h.m12 (sl_ hL), fun hL => h.m13 (sl_ hL), fun hL => h.m16 (sl_ hL), fun hL => h.m17 (sl_ hL), fun hL => h.m18 (sl_ hL), fun hL => h.m19 (sl_ hL), fun hL hM => h.b0 (sl_ hL) (by simpa using hM), fun hL => h.a0 (sl_ hL), fun hL hM => h.b1 (sl_ hL) (by simpa using hM), fun hL => h.a1 (sl_ hL), fun hL hM => h.b2 (sl_ hL) (by simpa using hM), fun hL => h.a2 (sl_ hL), fun hL => h.bd (sl_ hL), fun hL => (h.bw (sl_ hL)).imp (fun h => by simp [h]) (And.imp (fun h => by simp [h]) (fun h => by simp [h])), fun hL => by have := h.bx (sl_ hL); simp [this], fun hL => h.cz (sl_ hL), fun hL => h.ce (sl_ hL)⟩
  ·obtain rfl := Option.some.inj ho
   have d1 : L 1 = true := hd { on := 1, ground := Go.Ground.data } (by simp) rfl
   clear hd
   obtain rfl := h.m4 d1
   refine wpOp_step rfl fun K hK => ?_
   refine value_ (w1 := w') (v := .pointer (some ⟨g, 1, none⟩)) (by rfl) rfl ?_ ?_
   ·go_simp
    try rfl
   ·refine hK _ _ ⟨s1, s3, (.pointer (some ⟨g, 1, none⟩)), (.pointer (some ⟨g, 1, none⟩)), s6, s7, s8, s9, s10, s11, s12, s13, s14, s15, s16, s17, s18, s19, s20, s21, (by show Act.put _ (some 5) _ = _; simp only [Act.put, List.setIfInBounds_toArray, List.set_cons_zero, List.set_cons_succ]), ?_⟩
    exact ⟨h.low, fun hL => h.m4 (sl_ hL), fun _ => rfl, fun hL => h.m6 (sl_ hL), fun hL => h.m7 (sl_ hL), fun hL => h.m10 (sl_ hL), fun hL => h.m11 (sl_ hL), fun hL => h.m12 (sl_ hL), fun hL => h.m13 (sl_ hL), fun hL => h.m16 (sl_ hL), fun hL => h.m17 (sl_ hL), fun hL => h.m18 (sl_ hL), fun hL => h.m19 (sl_ hL), fun hL hM => h.b0 (sl_ hL) (by simpa using hM), fun hL => h.a0 (sl_ hL), fun hL hM => h.b1 (sl_ hL) (by simpa using hM), fun hL => h.a1 (sl_ hL), fun hL hM => h.b2 (sl_ hL) (by simpa using hM), fun hL => h.a2 (sl_ hL), fun hL => h.bd (sl_ hL), fun hL => (h.bw (sl_ hL)).imp (fun h => by simp [h]) (And.imp (fun h => by simp [h]) (fun h => by simp [h])), fun hL => by have := h.bx (sl_ hL); simp [this], fun hL => h.cz (sl_ hL), fun hL => h.ce (sl_ hL)⟩
  ·obtain rfl := Option.some.inj ho
   have d2 : L 2 = true := hd { on := 2, ground := Go.Ground.data } (by simp) rfl
   clear hd
   obtain rfl := h.m5 d2
   refine wpOp_step rfl fun K hK => ?_
   refine value_ (w1 := w') (v := .pointer (some ⟨g, 1, none⟩)) (by rfl) rfl ?_ ?_
   ·go_simp
    try rfl
   ·refine hK _ _ ⟨s1, s3, s4, (.pointer (some ⟨g, 1, none⟩)), (.pointer (some ⟨g, 1, none⟩)), s7, s8, s9, s10, s11, s12, s13, s14, s15, s16, s17, s18, s19, s20, s21, (by show Act.put _ (some 6) _ = _; simp only [Act.put, List.setIfInBounds_toArray, List.set_cons_zero, List.set_cons_succ]), ?_⟩
    exact ⟨h.low, fun hL => h.m4 (sl_ hL), fun hL => h.m5 (sl_ hL), fun _ => rfl, fun hL => h.m7 (sl_ hL), fun hL => h.m10 (sl_ hL), fun hL => h.m11 (sl_ hL), fun hL => h.m12 (sl_ hL), fun hL => h.m13 (sl_ hL), fun hL => h.m16 (sl_ hL), fun hL => h.m17 (sl_ hL), fun hL => h.m18 (sl_ hL), fun hL => h.m19 (sl_ hL), fun hL hM => h.b0 (sl_ hL) (by simpa using hM), fun hL => h.a0 (sl_ hL), fun hL hM => h.b1 (sl_ hL) (by simpa using hM), fun hL => h.a1 (sl_ hL), fun hL hM => h.b2 (sl_ hL) (by simpa using hM), fun hL => h.a2 (sl_ hL), fun hL => h.bd (sl_ hL), fun hL => (h.bw (sl_ hL)).imp (fun h => by simp [h]) (And.imp (fun h => by simp [h]) (fun h => by simp [h])), fun hL => by have := h.bx (sl_ hL); simp [this], fun hL => h.cz (sl_ hL), fun hL => h.ce (sl_ hL)⟩
  ·obtain rfl := Option.some.inj ho
   have d3 : L 3 = true := hd { on := 3, ground := Go.Ground.data } (by simp) rfl
   clear hd
   obtain rfl := h.m6 d3
   have hcl := pw_cell_below h.low hg0
   refine wpOp_step rfl fun K hK => ?_
   refine value_ (w1 := w') (v := .slice A0 X.1.length c0) (by rfl) rfl ?_ ?_
   ·go_simp
    try rfl
   ·refine hK _ _ ⟨s1, s3, s4, s5, (.pointer (some ⟨g, 1, none⟩)), (.slice A0 X.1.length c0), s8, s9, s10, s11, s12, s13, s14, s15, s16, s17, s18, s19, s20, s21, (by show Act.put _ (some 7) _ = _; simp only [Act.put, List.setIfInBounds_toArray, List.set_cons_zero, List.set_cons_succ]), ?_⟩
    exact ⟨h.low, fun hL => h.m4 (sl_ hL), fun hL => h.m5 (sl_ hL), fun hL => h.m6 (sl_ hL), fun _ => rfl, fun hL => h.m10 (sl_ hL), fun hL => h.m11 (sl_ hL), fun hL => h.m12 (sl_ hL), fun hL => h.m13 (sl_ hL), fun hL => h.m16 (sl_ hL), fun hL => h.m17 (sl_ hL), fun hL => h.m18 (sl_ hL), fun hL => h.m19 (sl_ hL), fun hL hM => h.b0 (sl_ hL) (by simpa using hM), fun hL => h.a0 (sl_ hL), fun hL hM => h.b1 (sl_ hL) (by simpa using hM), fun hL => h.a1 (sl_ hL), fun hL hM => h.b2 (sl_ hL) (by simpa using hM), fun hL => h.a2 (sl_ hL), fun hL => h.bd (sl_ hL), fun hL => (h.bw (sl_ hL)).imp (fun h => by simp [h]) (And.imp (fun h => by simp [h]) (fun h => by simp [h])), fun hL => by have := h.bx (sl_ hL); simp [this], fun hL => h.cz (sl_ hL), fun hL => h.ce (sl_ hL)⟩
  ·obtain rfl := Option.some.inj ho
   have d0 : L 0 = true := hd { on := 0, ground := Go.Ground.data } (by simp) rfl
   have d4 : L 4 = true := hd { on := 4, ground := Go.Ground.data } (by simp) rfl
   clear hd
   obtain rfl := h.m7 d4
   have hO := h.b0 d0 hL
   refine wpOp_step rfl fun K hK => ?_
   refine Kd.R_append_rows_step k97 (w0 := w) w.heap.size (by rfl) (.tmp 3) (.tmp 7) 34 97 (.agg #[(.string ⟨#[]⟩), (.string ⟨#[]⟩), (.int .i64 0)]) 40 rfl Tryz.underlying34 info97 rfl (by decide) (by omega) s3 [] X.1 _ _ _ (fun _ => True) (fun _ => False) rfl rfl ?aO ?aR (fun _ _ h => h) (fun _ h => h.elim) ?aF ?aB ?aS ?aL ?_
   case aR => exact Kd.C_below hr0 h.low
   case aB => exact h.low
   case aF => exact (fun _ _ => trivial)
   case aO => exact hO
   case aS => exact below_size h.low
   case aL => simp; omega
   intro v w1 ho hb hg hat
   rw [List.nil_append] at ho
   refine hK _ _ ⟨s1, s3, s4, s5, s6, (.slice A0 X.1.length c0), v, s9, s10, s11, s12, s13, s14, s15, s16, s17, s18, s19, s20, s21, (by show Act.put _ (some 8) _ = _; simp only [Act.put, List.setIfInBounds_toArray, List.set_cons_zero, List.set_cons_succ]), ?_⟩
   exact ⟨hb, fun hL => h.m4 (sl_ hL), fun hL => h.m5 (sl_ hL), fun hL => h.m6 (sl_ hL), fun hL => h.m7 (sl_ hL), fun hL => h.m10 (sl_ hL), fun hL => h.m11 (sl_ hL), fun hL => h.m12 (sl_ hL), fun hL => h.m13 (sl_ hL), fun hL => h.m16 (sl_ hL), fun hL => h.m17 (sl_ hL), fun hL => h.m18 (sl_ hL), fun hL => h.m19 (sl_ hL), fun _ hM => absurd hM (by simp), fun _ => ho, fun hL hM => Kd.R_over (h.b1 (sl_ hL) (by simpa using hM)) hO (fun q hq => eTy rfl (by decide) hq) hg, fun hL => Kd.R_over (h.a1 (sl_ hL)) hO (fun q hq => eTy rfl (by decide) hq) hg, fun hL hM => Kd.R_over (h.b2 (sl_ hL) (by simpa using hM)) hO (fun q hq => eTy rfl (by decide) hq) hg, fun hL => Kd.R_over (h.a2 (sl_ hL)) hO (fun q hq => eTy rfl (by decide) hq) hg, fun hM => absurd (h.bw (by simpa using hM)).1 (by simp [hL]), fun hL => (h.bw (sl_ hL)).imp (fun h => by simp [h]) (And.imp (fun h => by simp [h]) (fun h => by simp [h])), fun hL => by have := h.bx (sl_ hL); simp [this], fun hL => blk_grown (h.cz (sl_ hL)) hg (Kd.R_ne hO (h.cz (sl_ hL)) (by decide)), fun hM => absurd (h.bw (h.bx (by simpa using hM))).1 (by simp [hL])⟩
  ·obtain rfl := Option.some.inj ho
   clear hd
   refine wpOp_step rfl fun K hK => ?_
   refine Kd.R_lit_step Kd.string _ 9 ?hg (N := 9) ?hd (xs := ([] : List ByteArray)) (inner := []) (ok := fun _ => True) (okp := fun _ => True) ?hr ?hp (fun _ hk => hk) trivial (Below.refl _ _) (Nat.le_refl _) (by simp) ?_
   (case hd => rfl)
   (case hg => rfl)
   (case hr => first | (go_simp; done) | (go_simp; rfl))
   (case hp => exact (Reps.none _ _))
   intro v w1 ho hb hg_ hnew_
   refine hK _ _ ⟨s1, s3, s4, s5, s6, s7, s8, v, s10, s11, s12, s13, s14, s15, s16, s17, s18, s19, s20, s21, (by show Act.put _ (some 9) _ = _; simp only [Act.put, List.setIfInBounds_toArray, List.set_cons_zero, List.set_cons_succ]), ?_⟩
   exact ⟨below_step h.low hb, fun hL => h.m4 (sl_ hL), fun hL => h.m5 (sl_ hL), fun hL => h.m6 (sl_ hL), fun hL => h.m7 (sl_ hL), fun hL => h.m10 (sl_ hL), fun hL => h.m11 (sl_ hL), fun hL => h.m12 (sl_ hL), fun hL => h.m13 (sl_ hL), fun hL => h.m16 (sl_ hL), fun hL => h.m17 (sl_ hL), fun hL => h.m18 (sl_ hL), fun hL => h.m19 (sl_ hL), fun hL hM => Kd.R_below (h.b0 (sl_ hL) (by simpa using hM)) hb, fun hL => Kd.R_below (h.a0 (sl_ hL)) hb, fun _ _ => Kd.R_lower ho (below_size h.low), fun hL => Kd.R_below (h.a1 (sl_ hL)) hb, fun hL hM => Kd.R_below (h.b2 (sl_ hL) (by simpa using hM)) hb, fun hL => Kd.R_below (h.a2 (sl_ hL)) hb, fun hL => h.bd (sl_ hL), fun hL => (h.bw (sl_ hL)).imp (fun h => by simp [h]) (And.imp (fun h => by simp [h]) (fun h => by simp [h])), fun hL => by have := h.bx (sl_ hL); simp [this], fun hL => blk_below (h.cz (sl_ hL)) hb, fun hL => blk_below (h.ce (sl_ hL)) hb⟩
  ·obtain rfl := Option.some.inj ho
   clear hd
   refine wpOp_step rfl fun K hK => ?_
   refine value_ (w1 := w') (v := .pointer (some ⟨g, 1, none⟩)) (by rfl) rfl ?_ ?_
   ·go_simp
    try rfl
   ·refine hK _ _ ⟨s1, s3, s4, s5, s6, s7, s8, s9, (.pointer (some ⟨g, 1, none⟩)), s11, s12, s13, s14, s15, s16, s17, s18, s19, s20, s21, (by show Act.put _ (some 10) _ = _; simp only [Act.put, List.setIfInBounds_toArray, List.set_cons_zero, List.set_cons_succ]), ?_⟩
    exact ⟨h.low, fun hL => h.m4 (sl_ hL), fun hL => h.m5 (sl_ hL), fun hL => h.m6 (sl_ hL), fun hL => h.m7 (sl_ hL), fun _ => rfl, fun hL => h.m11 (sl_ hL), fun hL => h.m12 (sl_ hL), fun hL => h.m13 (sl_ hL), fun hL => h.m16 (sl_ hL), fun hL => h.m17 (sl_ hL), fun hL => h.m18 (sl_ hL), fun hL => h.m19 (sl_ hL), fun hL hM => h.b0 (sl_ hL) (by simpa using hM), fun hL => h.a0 (sl_ hL), fun hL hM => h.b1 (sl_ hL) (by simpa using hM), fun hL => h.a1 (sl_ hL), fun hL hM => h.b2 (sl_ hL) (by simpa using hM), fun hL => h.a2 (sl_ hL), fun hL => h.bd (sl_ hL), fun hL => (h.bw (sl_ hL)).imp (fun h => by simp [h]) (And.imp (fun h => by simp [h]) (fun h => by simp [h])), fun hL => by have := h.bx (sl_ hL); simp [this], fun hL => h.cz (sl_ hL), fun hL => h.ce (sl_ hL)⟩
  ·obtain rfl := Option.some.inj ho
   have d7 : L 7 = true := hd { on := 7, ground := Go.Ground.data } (by simp) rfl
   clear hd
   obtain rfl := h.m10 d7
   refine wpOp_step rfl fun K hK => ?_
   refine value_ (w1 := w') (v := .pointer (some ⟨g, 1, none⟩)) (by rfl) rfl ?_ ?_
   ·go_simp
    try rfl
   ·refine hK _ _ ⟨s1, s3, s4, s5, s6, s7, s8, s9, (.pointer (some ⟨g, 1, none⟩)), (.pointer (some ⟨g, 1, none⟩)), s12, s13, s14, s15, s16, s17, s18, s19, s20, s21, (by show Act.put _ (some 11) _ = _; simp only [Act.put, List.setIfInBounds_toArray, List.set_cons_zero, List.set_cons_succ]), ?_⟩
    exact ⟨h.low, fun hL => h.m4 (sl_ hL), fun hL => h.m5 (sl_ hL), fun hL => h.m6 (sl_ hL), fun hL => h.m7 (sl_ hL), fun hL => h.m10 (sl_ hL), fun _ => rfl, fun hL => h.m12 (sl_ hL), fun hL => h.m13 (sl_ hL), fun hL => h.m16 (sl_ hL), fun hL => h.m17 (sl_ hL), fun hL => h.m18 (sl_ hL), fun hL => h.m19 (sl_ hL), fun hL hM => h.b0 (sl_ hL) (by simpa using hM), fun hL => h.a0 (sl_ hL), fun hL hM => h.b1 (sl_ hL) (by simpa using hM), fun hL => h.a1 (sl_ hL), fun hL hM => h.b2 (sl_ hL) (by simpa using hM), fun hL => h.a2 (sl_ hL), fun hL => h.bd (sl_ hL), fun hL => (h.bw (sl_ hL)).imp (fun h => by simp [h]) (And.imp (fun h => by simp [h]) (fun h => by simp [h])), fun hL => by have := h.bx (sl_ hL); simp [this], fun hL => h.cz (sl_ hL), fun hL => h.ce (sl_ hL)⟩
  ·obtain rfl := Option.some.inj ho
   have d8 : L 8 = true := hd { on := 8, ground := Go.Ground.data } (by simp) rfl
   clear hd
   obtain rfl := h.m11 d8
   refine wpOp_step rfl fun K hK => ?_
   refine value_ (w1 := w') (v := .pointer (some ⟨g, 2, none⟩)) (by rfl) rfl ?_ ?_
   ·go_simp
    try rfl
   ·refine hK _ _ ⟨s1, s3, s4, s5, s6, s7, s8, s9, s10, (.pointer (some ⟨g, 1, none⟩)), (.pointer (some ⟨g, 2, none⟩)), s13, s14, s15, s16, s17, s18, s19, s20, s21, (by show Act.put _ (some 12) _ = _; simp only [Act.put, List.setIfInBounds_toArray, List.set_cons_zero, List.set_cons_succ]), ?_⟩
    exact ⟨h.low, fun hL => h.m4 (sl_ hL), fun hL => h.m5 (sl_ hL), fun hL => h.m6 (sl_ hL), fun hL => h.m7 (sl_ hL), fun hL => h.m10 (sl_ hL), fun hL => h.m11 (sl_ hL), fun _ => rfl, fun hL => h.m13 (sl_ hL), fun hL => h.m16 (sl_ hL), fun hL => h.m17 (sl_ hL), fun hL => h.m18 (sl_ hL), fun hL => h.m19 (sl_ hL), fun hL hM => h.b0 (sl_ hL) (by simpa using hM), fun hL => h.a0 (sl_ hL), fun hL hM => h.b1 (sl_ hL) (by simpa using hM), fun hL => h.a1 (sl_ hL), fun hL hM => h.b2 (sl_ hL) (by simpa using hM), fun hL => h.a2 (sl_ hL), fun hL => h.bd (sl_ hL), fun hL => (h.bw (sl_ hL)).imp (fun h => by simp [h]) (And.imp (fun h => by simp [h]) (fun h => by simp [h])), fun hL => by have := h.bx (sl_ hL); simp [this], fun hL => h.cz (sl_ hL), fun hL => h.ce (sl_ hL)⟩
  ·obtain rfl := Option.some.inj ho
   have d9 : L 9 = true := hd { on := 9, ground := Go.Ground.data } (by simp) rfl
   clear hd
   obtain rfl := h.m12 d9
   have hcl := pw_cell_below h.low hg1
   refine wpOp_step rfl fun K hK => ?_
   refine value_ (w1 := w') (v := .slice A1 X.2.1.length c1) (by rfl) rfl ?_ ?_
   ·go_simp
    try rfl
   ·refine hK _ _ ⟨s1, s3, s4, s5, s6, s7, s8, s9, s10, s11, (.pointer (some ⟨g, 2, none⟩)), (.slice A1 X.2.1.length c1), s14, s15, s16, s17, s18, s19, s20, s21, (by show Act.put _ (some 13) _ = _; simp only [Act.put, List.setIfInBounds_toArray, List.set_cons_zero, List.set_cons_succ]), ?_⟩
    exact ⟨h.low, fun hL => h.m4 (sl_ hL), fun hL => h.m5 (sl_ hL), fun hL => h.m6 (sl_ hL), fun hL => h.m7 (sl_ hL), fun hL => h.m10 (sl_ hL), fun hL => h.m11 (sl_ hL), fun hL => h.m12 (sl_ hL), fun _ => rfl, fun hL => h.m16 (sl_ hL), fun hL => h.m17 (sl_ hL), fun hL => h.m18 (sl_ hL), fun hL => h.m19 (sl_ hL), fun hL hM => h.b0 (sl_ hL) (by simpa using hM), fun hL => h.a0 (sl_ hL), fun hL hM => h.b1 (sl_ hL) (by simpa using hM), fun hL => h.a1 (sl_ hL), fun hL hM => h.b2 (sl_ hL) (by simpa using hM), fun hL => h.a2 (sl_ hL), fun hL => h.bd (sl_ hL), fun hL => (h.bw (sl_ hL)).imp (fun h => by simp [h]) (And.imp (fun h => by simp [h]) (fun h => by simp [h])), fun hL => by have := h.bx (sl_ hL); simp [this], fun hL => h.cz (sl_ hL), fun hL => h.ce (sl_ hL)⟩
  ·obtain rfl := Option.some.inj ho
   have d6 : L 6 = true := hd { on := 6, ground := Go.Ground.data } (by simp) rfl
   have d10 : L 10 = true := hd { on := 10, ground := Go.Ground.data } (by simp) rfl
   have d5 : L 5 = true := hd { on := 5, ground := Go.Ground.chain } (by simp) rfl
   clear hd
   obtain rfl := h.m13 d10
   have hO := h.b1 d6 hL
   refine wpOp_step rfl fun K hK => ?_
   refine Kd.R_append_rows_step Kd.string (w0 := w) w.heap.size (by rfl) (.tmp 9) (.tmp 13) 23 9 (.string ⟨#[]⟩) 16 rfl Tryz.underlying23 info9 rfl (by decide) (by omega) s9 [] X.2.1 _ _ _ (fun _ => True) (fun _ => False) rfl rfl ?aO ?aR (fun _ _ h => h) (fun _ h => h.elim) ?aF ?aB ?aS ?aL ?_
   case aR => exact Kd.C_below hr1 h.low
   case aB => exact h.low
   case aF => exact (fun _ _ => trivial)
   case aO => exact hO
   case aS => exact below_size h.low
   case aL => simp; omega
   intro v w1 ho hb hg hat
   rw [List.nil_append] at ho
   refine hK _ _ ⟨s1, s3, s4, s5, s6, s7, s8, s9, s10, s11, s12, (.slice A1 X.2.1.length c1), v, s15, s16, s17, s18, s19, s20, s21, (by show Act.put _ (some 14) _ = _; simp only [Act.put, List.setIfInBounds_toArray, List.set_cons_zero, List.set_cons_succ]), ?_⟩
   exact ⟨hb, fun hL => h.m4 (sl_ hL), fun hL => h.m5 (sl_ hL), fun hL => h.m6 (sl_ hL), fun hL => h.m7 (sl_ hL), fun hL => h.m10 (sl_ hL), fun hL => h.m11 (sl_ hL), fun hL => h.m12 (sl_ hL), fun hL => h.m13 (sl_ hL), fun hL => h.m16 (sl_ hL), fun hL => h.m17 (sl_ hL), fun hL => h.m18 (sl_ hL), fun hL => h.m19 (sl_ hL), fun hL hM => Kd.R_over (h.b0 (sl_ hL) (by simpa using hM)) hO (fun q hq => eTy rfl (by decide) hq) hg, fun hL => Kd.R_over (h.a0 (sl_ hL)) hO (fun q hq => eTy rfl (by decide) hq) hg, fun _ hM => absurd hM (by simp), fun _ => ho, fun hL hM => Kd.R_over (h.b2 (sl_ hL) (by simpa using hM)) hO (fun q hq => eTy rfl (by decide) hq) hg, fun hL => Kd.R_over (h.a2 (sl_ hL)) hO (fun q hq => eTy rfl (by decide) hq) hg, fun hM => absurd (h.bw (by simpa using hM)).2.1 (by simp [hL]), fun hL => (h.bw (sl_ hL)).imp (fun h => by simp [h]) (And.imp (fun h => by simp [h]) (fun h => by simp [h])), fun hL => by have := h.bx (sl_ hL); simp [this], fun hL => blk_grown (h.cz (sl_ hL)) hg (Kd.R_ne hO (h.cz (sl_ hL)) (by decide)), fun hM => absurd (h.bw (h.bx (by simpa using hM))).2.1 (by simp [hL])⟩
  ·obtain rfl := Option.some.inj ho
   clear hd
   refine wpOp_step rfl fun K hK => ?_
   refine Kd.R_lit_step k101 _ 101 ?hg (N := 15) ?hd (xs := ([] : List S101)) (inner := []) (ok := fun _ => True) (okp := fun _ => True) ?hr ?hp (fun _ hk => hk) trivial (Below.refl _ _) (Nat.le_refl _) (by simp) ?_
   (case hd => rfl)
   (case hg => rfl)
   (case hr => first | (go_simp; done) | (go_simp; rfl))
   (case hp => exact (Reps.none _ _))
   intro v w1 ho hb hg_ hnew_
   refine hK _ _ ⟨s1, s3, s4, s5, s6, s7, s8, s9, s10, s11, s12, s13, s14, v, s16, s17, s18, s19, s20, s21, (by show Act.put _ (some 15) _ = _; simp only [Act.put, List.setIfInBounds_toArray, List.set_cons_zero, List.set_cons_succ]), ?_⟩
   exact ⟨below_step h.low hb, fun hL => h.m4 (sl_ hL), fun hL => h.m5 (sl_ hL), fun hL => h.m6 (sl_ hL), fun hL => h.m7 (sl_ hL), fun hL => h.m10 (sl_ hL), fun hL => h.m11 (sl_ hL), fun hL => h.m12 (sl_ hL), fun hL => h.m13 (sl_ hL), fun hL => h.m16 (sl_ hL), fun hL => h.m17 (sl_ hL), fun hL => h.m18 (sl_ hL), fun hL => h.m19 (sl_ hL), fun hL hM => Kd.R_below (h.b0 (sl_ hL) (by simpa using hM)) hb, fun hL => Kd.R_below (h.a0 (sl_ hL)) hb, fun hL hM => Kd.R_below (h.b1 (sl_ hL) (by simpa using hM)) hb, fun hL => Kd.R_below (h.a1 (sl_ hL)) hb, fun _ _ => Kd.R_lower ho (below_size h.low), fun hL => Kd.R_below (h.a2 (sl_ hL)) hb, fun hL => h.bd (sl_ hL), fun hL => (h.bw (sl_ hL)).imp (fun h => by simp [h]) (And.imp (fun h => by simp [h]) (fun h => by simp [h])), fun hL => by have := h.bx (sl_ hL); simp [this], fun hL => blk_below (h.cz (sl_ hL)) hb, fun hL => blk_below (h.ce (sl_ hL)) hb⟩
  ·obtain rfl := Option.some.inj ho
   clear hd
   refine wpOp_step rfl fun K hK => ?_
   refine value_ (w1 := w') (v := .pointer (some ⟨g, 1, none⟩)) (by rfl) rfl ?_ ?_
   ·go_simp
    try rfl
   ·refine hK _ _ ⟨s1, s3, s4, s5, s6, s7, s8, s9, s10, s11, s12, s13, s14, s15, (.pointer (some ⟨g, 1, none⟩)), s17, s18, s19, s20, s21, (by show Act.put _ (some 16) _ = _; simp only [Act.put, List.setIfInBounds_toArray, List.set_cons_zero, List.set_cons_succ]), ?_⟩
    exact ⟨h.low, fun hL => h.m4 (sl_ hL), fun hL => h.m5 (sl_ hL), fun hL => h.m6 (sl_ hL), fun hL => h.m7 (sl_ hL), fun hL => h.m10 (sl_ hL), fun hL => h.m11 (sl_ hL), fun hL => h.m12 (sl_ hL), fun hL => h.m13 (sl_ hL), fun _ => rfl, fun hL => h.m17 (sl_ hL), fun hL => h.m18 (sl_ hL), fun hL => h.m19 (sl_ hL), fun hL hM => h.b0 (sl_ hL) (by simpa using hM), fun hL => h.a0 (sl_ hL), fun hL hM => h.b1 (sl_ hL) (by simpa using hM), fun hL => h.a1 (sl_ hL), fun hL hM => h.b2 (sl_ hL) (by simpa using hM), fun hL => h.a2 (sl_ hL), fun hL => h.bd (sl_ hL), fun hL => (h.bw (sl_ hL)).imp (fun h => by simp [h]) (And.imp (fun h => by simp [h]) (fun h => by simp [h])), fun hL => by have := h.bx (sl_ hL); simp [this], fun hL => h.cz (sl_ hL), fun hL => h.ce (sl_ hL)⟩
  ·obtain rfl := Option.some.inj ho
   have d13 : L 13 = true := hd { on := 13, ground := Go.Ground.data } (by simp) rfl
   clear hd
   obtain rfl := h.m16 d13
   refine wpOp_step rfl fun K hK => ?_
   refine value_ (w1 := w') (v := .pointer (some ⟨g, 1, none⟩)) (by rfl) rfl ?_ ?_
   ·go_simp
    try rfl
   ·refine hK _ _ ⟨s1, s3, s4, s5, s6, s7, s8, s9, s10, s11, s12, s13, s14, s15, (.pointer (some ⟨g, 1, none⟩)), (.pointer (some ⟨g, 1, none⟩)), s18, s19, s20, s21, (by show Act.put _ (some 17) _ = _; simp only [Act.put, List.setIfInBounds_toArray, List.set_cons_zero, List.set_cons_succ]), ?_⟩
    exact ⟨h.low, fun hL => h.m4 (sl_ hL), fun hL => h.m5 (sl_ hL), fun hL => h.m6 (sl_ hL), fun hL => h.m7 (sl_ hL), fun hL => h.m10 (sl_ hL), fun hL => h.m11 (sl_ hL), fun hL => h.m12 (sl_ hL), fun hL => h.m13 (sl_ hL), fun hL => h.m16 (sl_ hL), fun _ => rfl, fun hL => h.m18 (sl_ hL), fun hL => h.m19 (sl_ hL), fun hL hM => h.b0 (sl_ hL) (by simpa using hM), fun hL => h.a0 (sl_ hL), fun hL hM => h.b1 (sl_ hL) (by simpa using hM), fun hL => h.a1 (sl_ hL), fun hL hM => h.b2 (sl_ hL) (by simpa using hM), fun hL => h.a2 (sl_ hL), fun hL => h.bd (sl_ hL), fun hL => (h.bw (sl_ hL)).imp (fun h => by simp [h]) (And.imp (fun h => by simp [h]) (fun h => by simp [h])), fun hL => by have := h.bx (sl_ hL); simp [this], fun hL => h.cz (sl_ hL), fun hL => h.ce (sl_ hL)⟩
  ·obtain rfl := Option.some.inj ho
   have d14 : L 14 = true := hd { on := 14, ground := Go.Ground.data } (by simp) rfl
   clear hd
   obtain rfl := h.m17 d14
   refine wpOp_step rfl fun K hK => ?_
   refine value_ (w1 := w') (v := .pointer (some ⟨g, 3, none⟩)) (by rfl) rfl ?_ ?_
   ·go_simp
    try rfl
   ·refine hK _ _ ⟨s1, s3, s4, s5, s6, s7, s8, s9, s10, s11, s12, s13, s14, s15, s16, (.pointer (some ⟨g, 1, none⟩)), (.pointer (some ⟨g, 3, none⟩)), s19, s20, s21, (by show Act.put _ (some 18) _ = _; simp only [Act.put, List.setIfInBounds_toArray, List.set_cons_zero, List.set_cons_succ]), ?_⟩
    exact ⟨h.low, fun hL => h.m4 (sl_ hL), fun hL => h.m5 (sl_ hL), fun hL => h.m6 (sl_ hL), fun hL => h.m7 (sl_ hL), fun hL => h.m10 (sl_ hL), fun hL => h.m11 (sl_ hL), fun hL => h.m12 (sl_ hL), fun hL => h.m13 (sl_ hL), fun hL => h.m16 (sl_ hL), fun hL => h.m17 (sl_ hL), fun _ => rfl, fun hL => h.m19 (sl_ hL), fun hL hM => h.b0 (sl_ hL) (by simpa using hM), fun hL => h.a0 (sl_ hL), fun hL hM => h.b1 (sl_ hL) (by simpa using hM), fun hL => h.a1 (sl_ hL), fun hL hM => h.b2 (sl_ hL) (by simpa using hM), fun hL => h.a2 (sl_ hL), fun hL => h.bd (sl_ hL), fun hL => (h.bw (sl_ hL)).imp (fun h => by simp [h]) (And.imp (fun h => by simp [h]) (fun h => by simp [h])), fun hL => by have := h.bx (sl_ hL); simp [this], fun hL => h.cz (sl_ hL), fun hL => h.ce (sl_ hL)⟩
  ·obtain rfl := Option.some.inj ho
   have d15 : L 15 = true := hd { on := 15, ground := Go.Ground.data } (by simp) rfl
   clear hd
   obtain rfl := h.m18 d15
   have hcl := pw_cell_below h.low hg2
   refine wpOp_step rfl fun K hK => ?_
   refine value_ (w1 := w') (v := .slice A2 X.2.2.length c2) (by rfl) rfl ?_ ?_
   ·go_simp
    try rfl
   ·refine hK _ _ ⟨s1, s3, s4, s5, s6, s7, s8, s9, s10, s11, s12, s13, s14, s15, s16, s17, (.pointer (some ⟨g, 3, none⟩)), (.slice A2 X.2.2.length c2), s20, s21, (by show Act.put _ (some 19) _ = _; simp only [Act.put, List.setIfInBounds_toArray, List.set_cons_zero, List.set_cons_succ]), ?_⟩
    exact ⟨h.low, fun hL => h.m4 (sl_ hL), fun hL => h.m5 (sl_ hL), fun hL => h.m6 (sl_ hL), fun hL => h.m7 (sl_ hL), fun hL => h.m10 (sl_ hL), fun hL => h.m11 (sl_ hL), fun hL => h.m12 (sl_ hL), fun hL => h.m13 (sl_ hL), fun hL => h.m16 (sl_ hL), fun hL => h.m17 (sl_ hL), fun hL => h.m18 (sl_ hL), fun _ => rfl, fun hL hM => h.b0 (sl_ hL) (by simpa using hM), fun hL => h.a0 (sl_ hL), fun hL hM => h.b1 (sl_ hL) (by simpa using hM), fun hL => h.a1 (sl_ hL), fun hL hM => h.b2 (sl_ hL) (by simpa using hM), fun hL => h.a2 (sl_ hL), fun hL => h.bd (sl_ hL), fun hL => (h.bw (sl_ hL)).imp (fun h => by simp [h]) (And.imp (fun h => by simp [h]) (fun h => by simp [h])), fun hL => by have := h.bx (sl_ hL); simp [this], fun hL => h.cz (sl_ hL), fun hL => h.ce (sl_ hL)⟩
  ·obtain rfl := Option.some.inj ho
   have d12 : L 12 = true := hd { on := 12, ground := Go.Ground.data } (by simp) rfl
   have d16 : L 16 = true := hd { on := 16, ground := Go.Ground.data } (by simp) rfl
   have d11 : L 11 = true := hd { on := 11, ground := Go.Ground.chain } (by simp) rfl
   clear hd
   obtain rfl := h.m19 d16
   have hO := h.b2 d12 hL
   refine wpOp_step rfl fun K hK => ?_
   refine Kd.R_append_rows_step k101 (w0 := w) w.heap.size (by rfl) (.tmp 15) (.tmp 19) 35 101 (.agg #[(.string ⟨#[]⟩), (.string ⟨#[]⟩), (.int .i64 0)]) 40 rfl Tryz.underlying35 info101 rfl (by decide) (by omega) s15 [] X.2.2 _ _ _ (fun _ => True) (fun _ => False) rfl rfl ?aO ?aR (fun _ _ h => h) (fun _ h => h.elim) ?aF ?aB ?aS ?aL ?_
   case aR => exact Kd.C_below hr2 h.low
   case aB => exact h.low
   case aF => exact (fun _ _ => trivial)
   case aO => exact hO
   case aS => exact below_size h.low
   case aL => simp; omega
   intro v w1 ho hb hg hat
   rw [List.nil_append] at ho
   refine hK _ _ ⟨s1, s3, s4, s5, s6, s7, s8, s9, s10, s11, s12, s13, s14, s15, s16, s17, s18, (.slice A2 X.2.2.length c2), v, s21, (by show Act.put _ (some 20) _ = _; simp only [Act.put, List.setIfInBounds_toArray, List.set_cons_zero, List.set_cons_succ]), ?_⟩
   exact ⟨hb, fun hL => h.m4 (sl_ hL), fun hL => h.m5 (sl_ hL), fun hL => h.m6 (sl_ hL), fun hL => h.m7 (sl_ hL), fun hL => h.m10 (sl_ hL), fun hL => h.m11 (sl_ hL), fun hL => h.m12 (sl_ hL), fun hL => h.m13 (sl_ hL), fun hL => h.m16 (sl_ hL), fun hL => h.m17 (sl_ hL), fun hL => h.m18 (sl_ hL), fun hL => h.m19 (sl_ hL), fun hL hM => Kd.R_over (h.b0 (sl_ hL) (by simpa using hM)) hO (fun q hq => eTy rfl (by decide) hq) hg, fun hL => Kd.R_over (h.a0 (sl_ hL)) hO (fun q hq => eTy rfl (by decide) hq) hg, fun hL hM => Kd.R_over (h.b1 (sl_ hL) (by simpa using hM)) hO (fun q hq => eTy rfl (by decide) hq) hg, fun hL => Kd.R_over (h.a1 (sl_ hL)) hO (fun q hq => eTy rfl (by decide) hq) hg, fun _ hM => absurd hM (by simp), fun _ => ho, fun hM => absurd (h.bw (by simpa using hM)).2.2 (by simp [hL]), fun hL => (h.bw (sl_ hL)).imp (fun h => by simp [h]) (And.imp (fun h => by simp [h]) (fun h => by simp [h])), fun hL => by have := h.bx (sl_ hL); simp [this], fun hL => blk_grown (h.cz (sl_ hL)) hg (Kd.R_ne hO (h.cz (sl_ hL)) (by decide)), fun hM => absurd (h.bw (h.bx (by simpa using hM))).2.2 (by simp [hL])⟩
  ·obtain rfl := Option.some.inj ho
   have d5 : L 5 = true := hd { on := 5, ground := Go.Ground.data } (by simp) rfl
   have d11 : L 11 = true := hd { on := 11, ground := Go.Ground.data } (by simp) rfl
   have d17 : L 17 = true := hd { on := 17, ground := Go.Ground.data } (by simp) rfl
   clear hd
   obtain ⟨B0, d0_, e0_⟩ := Kd.R_slice (h.a0 d5)
   obtain ⟨B1, d1_, e1_⟩ := Kd.R_slice (h.a1 d11)
   obtain ⟨B2, d2_, e2_⟩ := Kd.R_slice (h.a2 d17)
   subst e0_
   subst e1_
   subst e2_
   refine wpOp_step rfl fun K hK => ?_
   refine value_ (w1 := w') (v := .agg #[.slice B0 X.1.length d0_, .slice B1 X.2.1.length d1_, .slice B2 X.2.2.length d2_]) (by rfl) rfl ?_ ?_
   ·go_simp
    try rfl
   ·refine hK _ _ ⟨s1, s3, s4, s5, s6, s7, (.slice B0 X.1.length d0_), s9, s10, s11, s12, s13, (.slice B1 X.2.1.length d1_), s15, s16, s17, s18, s19, (.slice B2 X.2.2.length d2_), (.agg #[.slice B0 X.1.length d0_, .slice B1 X.2.1.length d1_, .slice B2 X.2.2.length d2_]), rfl, ?_⟩
    exact ⟨h.low, fun hL => h.m4 (sl_ hL), fun hL => h.m5 (sl_ hL), fun hL => h.m6 (sl_ hL), fun hL => h.m7 (sl_ hL), fun hL => h.m10 (sl_ hL), fun hL => h.m11 (sl_ hL), fun hL => h.m12 (sl_ hL), fun hL => h.m13 (sl_ hL), fun hL => h.m16 (sl_ hL), fun hL => h.m17 (sl_ hL), fun hL => h.m18 (sl_ hL), fun hL => h.m19 (sl_ hL), fun hL hM => h.b0 (sl_ hL) (by simpa using hM), fun hL => h.a0 (sl_ hL), fun hL hM => h.b1 (sl_ hL) (by simpa using hM), fun hL => h.a1 (sl_ hL), fun hL hM => h.b2 (sl_ hL) (by simpa using hM), fun hL => h.a2 (sl_ hL), fun _ => rfl, fun _ => ⟨by simp [d5], by simp [d11], by simp [d17]⟩, fun hL => by have := h.bx (sl_ hL); simp [this], fun hL => h.cz (sl_ hL), fun hL => h.ce (sl_ hL)⟩
  ·obtain rfl := Option.some.inj ho
   have d18 : L 18 = true := hd { on := 18, ground := Go.Ground.data } (by simp) rfl
   have d17 : L 17 = true := hd { on := 17, ground := Go.Ground.chain } (by simp) rfl
   have d0 : L 0 = true := hd { on := 0, ground := Go.Ground.phase } (by simp) rfl
   have d1 : L 1 = true := hd { on := 1, ground := Go.Ground.phase } (by simp) rfl
   have d2 : L 2 = true := hd { on := 2, ground := Go.Ground.phase } (by simp) rfl
   have d3 : L 3 = true := hd { on := 3, ground := Go.Ground.phase } (by simp) rfl
   have d4 : L 4 = true := hd { on := 4, ground := Go.Ground.phase } (by simp) rfl
   have d5 : L 5 = true := hd { on := 5, ground := Go.Ground.phase } (by simp) rfl
   have d6 : L 6 = true := hd { on := 6, ground := Go.Ground.phase } (by simp) rfl
   have d7 : L 7 = true := hd { on := 7, ground := Go.Ground.phase } (by simp) rfl
   have d8 : L 8 = true := hd { on := 8, ground := Go.Ground.phase } (by simp) rfl
   have d9 : L 9 = true := hd { on := 9, ground := Go.Ground.phase } (by simp) rfl
   have d10 : L 10 = true := hd { on := 10, ground := Go.Ground.phase } (by simp) rfl
   have d11 : L 11 = true := hd { on := 11, ground := Go.Ground.phase } (by simp) rfl
   have d12 : L 12 = true := hd { on := 12, ground := Go.Ground.phase } (by simp) rfl
   have d13 : L 13 = true := hd { on := 13, ground := Go.Ground.phase } (by simp) rfl
   have d14 : L 14 = true := hd { on := 14, ground := Go.Ground.phase } (by simp) rfl
   have d15 : L 15 = true := hd { on := 15, ground := Go.Ground.phase } (by simp) rfl
   have d16 : L 16 = true := hd { on := 16, ground := Go.Ground.phase } (by simp) rfl
   have d17 : L 17 = true := hd { on := 17, ground := Go.Ground.phase } (by simp) rfl
   have d18 : L 18 = true := hd { on := 18, ground := Go.Ground.phase } (by simp) rfl
   clear hd
   obtain rfl := h.bd d18
   obtain ⟨u5, u11, u17⟩ := h.bw d18
   obtain ⟨B0, d0_, e0_⟩ := Kd.R_slice (h.a0 u5)
   obtain ⟨B1, d1_, e1_⟩ := Kd.R_slice (h.a1 u11)
   obtain ⟨B2, d2_, e2_⟩ := Kd.R_slice (h.a2 u17)
   subst e0_
   subst e1_
   subst e2_
   have hz := h.cz hL
   have z0 := (blk_cell hz 0).trans rfl
   have z1 := (blk_cell hz 1).trans rfl
   have z2 := (blk_cell hz 2).trans rfl
   have zf : ∀ o, w'.frozen? ⟨gc, o, none⟩ = false := fun o => blk_frozen hz o
   refine wpOp_step rfl fun K hK => ?_
   refine skip_ (w1 := ?_) (by rfl) rfl ?_ ?_
   rotate_left
   ·go_simp
    rfl
   refine hK _ _ ⟨s1, s3, s4, s5, s6, s7, (.slice B0 X.1.length d0_), s9, s10, s11, s12, s13, (.slice B1 X.2.1.length d1_), s15, s16, s17, s18, s19, (.slice B2 X.2.2.length d2_), (.agg #[.slice B0 X.1.length d0_, .slice B1 X.2.1.length d1_, .slice B2 X.2.2.length d2_]), rfl, ?_⟩
   exact ⟨rig_low h.low GC, fun hL => h.m4 (sl_ hL), fun hL => h.m5 (sl_ hL), fun hL => h.m6 (sl_ hL), fun hL => h.m7 (sl_ hL), fun hL => h.m10 (sl_ hL), fun hL => h.m11 (sl_ hL), fun hL => h.m12 (sl_ hL), fun hL => h.m13 (sl_ hL), fun hL => h.m16 (sl_ hL), fun hL => h.m17 (sl_ hL), fun hL => h.m18 (sl_ hL), fun hL => h.m19 (sl_ hL), fun hL hM => rig_three (h.b0 (sl_ hL) (by simpa using hM)) rfl (by decide) hz, fun hL => rig_three (h.a0 (sl_ hL)) rfl (by decide) hz, fun hL hM => rig_three (h.b1 (sl_ hL) (by simpa using hM)) rfl (by decide) hz, fun hL => rig_three (h.a1 (sl_ hL)) rfl (by decide) hz, fun hL hM => rig_three (h.b2 (sl_ hL) (by simpa using hM)) rfl (by decide) hz, fun hL => rig_three (h.a2 (sl_ hL)) rfl (by decide) hz, fun hL => h.bd (sl_ hL), fun hL => (h.bw (sl_ hL)).imp (fun h => by simp [h]) (And.imp (fun h => by simp [h]) (fun h => by simp [h])), fun _ => by simp [d18], fun hM => absurd hM (by simp), fun _ => rig_blk hz⟩
section
variable {w0 w : World} {gc : Nat} {a b c d e f g x0 x1 x2 x3 x4 x5 x6 : Value}
theorem desk_blk (hb : w.heap[gc]? = some (.cells #[a, b, c, d, e, f, g] 41 (0, 0))) : (((((((w.setCell ⟨gc, 0, none⟩ x0).setCell ⟨gc, 1, none⟩ x1).setCell ⟨gc, 2, none⟩ x2).setCell ⟨gc, 3, none⟩ x3).setCell ⟨gc, 4, none⟩ x4).setCell ⟨gc, 5, none⟩ x5).setCell ⟨gc, 6, none⟩ x6).heap[gc]? = some (.cells #[x0, x1, x2, x3, x4, x5, x6] 41 (0, 0)) := by
 have h0 : (w.setCell ⟨gc, 0, none⟩ x0).heap[gc]? = some (.cells #[x0, b, c, d, e, f, g] 41 (0, 0)) := blk_set hb 0 x0
 have h1 : ((w.setCell ⟨gc, 0, none⟩ x0).setCell ⟨gc, 1, none⟩ x1).heap[gc]? = some (.cells #[x0, x1, c, d, e, f, g] 41 (0, 0)) := blk_set h0 1 x1
 have h2 : (((w.setCell ⟨gc, 0, none⟩ x0).setCell ⟨gc, 1, none⟩ x1).setCell ⟨gc, 2, none⟩ x2).heap[gc]? = some (.cells #[x0, x1, x2, d, e, f, g] 41 (0, 0)) := blk_set h1 2 x2
 have h3 : ((((w.setCell ⟨gc, 0, none⟩ x0).setCell ⟨gc, 1, none⟩ x1).setCell ⟨gc, 2, none⟩ x2).setCell ⟨gc, 3, none⟩ x3).heap[gc]? = some (.cells #[x0, x1, x2, x3, e, f, g] 41 (0, 0)) := blk_set h2 3 x3
 have h4 : (((((w.setCell ⟨gc, 0, none⟩ x0).setCell ⟨gc, 1, none⟩ x1).setCell ⟨gc, 2, none⟩ x2).setCell ⟨gc, 3, none⟩ x3).setCell ⟨gc, 4, none⟩ x4).heap[gc]? = some (.cells #[x0, x1, x2, x3, x4, f, g] 41 (0, 0)) := blk_set h3 4 x4
 have h5 : ((((((w.setCell ⟨gc, 0, none⟩ x0).setCell ⟨gc, 1, none⟩ x1).setCell ⟨gc, 2, none⟩ x2).setCell ⟨gc, 3, none⟩ x3).setCell ⟨gc, 4, none⟩ x4).setCell ⟨gc, 5, none⟩ x5).heap[gc]? = some (.cells #[x0, x1, x2, x3, x4, x5, g] 41 (0, 0)) := blk_set h4 5 x5
 have h6 : (((((((w.setCell ⟨gc, 0, none⟩ x0).setCell ⟨gc, 1, none⟩ x1).setCell ⟨gc, 2, none⟩ x2).setCell ⟨gc, 3, none⟩ x3).setCell ⟨gc, 4, none⟩ x4).setCell ⟨gc, 5, none⟩ x5).setCell ⟨gc, 6, none⟩ x6).heap[gc]? = some (.cells #[x0, x1, x2, x3, x4, x5, x6] 41 (0, 0)) := blk_set h5 6 x6
 exact h6
theorem desk_low {m : Nat} (h : Below m w0 w) (hg : m ≤ gc) : Below m w0 (((((((w.setCell ⟨gc, 0, none⟩ x0).setCell ⟨gc, 1, none⟩ x1).setCell ⟨gc, 2, none⟩ x2).setCell ⟨gc, 3, none⟩ x3).setCell ⟨gc, 4, none⟩ x4).setCell ⟨gc, 5, none⟩ x5).setCell ⟨gc, 6, none⟩ x6) := (((((((h).setCell (p := ⟨gc, 0, none⟩) hg x0).setCell (p := ⟨gc, 1, none⟩) hg x1).setCell (p := ⟨gc, 2, none⟩) hg x2).setCell (p := ⟨gc, 3, none⟩) hg x3).setCell (p := ⟨gc, 4, none⟩) hg x4).setCell (p := ⟨gc, 5, none⟩) hg x5).setCell (p := ⟨gc, 6, none⟩) hg x6
theorem desk_set {α : Type} {k : Kd α} {t base : Nat} {ok : Nat → Prop} {v : Value} {xs : List α} (h : k.R t w base ok v xs) (hE : k.E = []) (he : t ≠ 41) (hb : w.heap[gc]? = some (.cells #[a, b, c, d, e, f, g] 41 (0, 0))) : k.R t (((((((w.setCell ⟨gc, 0, none⟩ x0).setCell ⟨gc, 1, none⟩ x1).setCell ⟨gc, 2, none⟩ x2).setCell ⟨gc, 3, none⟩ x3).setCell ⟨gc, 4, none⟩ x4).setCell ⟨gc, 5, none⟩ x5).setCell ⟨gc, 6, none⟩ x6) base ok v xs := Kd.R_set (Kd.R_set (Kd.R_set (Kd.R_set (Kd.R_set (Kd.R_set (Kd.R_set (h) (hb) (fun q hq => eTy hE he hq) 0 x0) (blk_set (hb) 0 x0) (fun q hq => eTy hE he hq) 1 x1) (blk_set (blk_set (hb) 0 x0) 1 x1) (fun q hq => eTy hE he hq) 2 x2) (blk_set (blk_set (blk_set (hb) 0 x0) 1 x1) 2 x2) (fun q hq => eTy hE he hq) 3 x3) (blk_set (blk_set (blk_set (blk_set (hb) 0 x0) 1 x1) 2 x2) 3 x3) (fun q hq => eTy hE he hq) 4 x4) (blk_set (blk_set (blk_set (blk_set (blk_set (hb) 0 x0) 1 x1) 2 x2) 3 x3) 4 x4) (fun q hq => eTy hE he hq) 5 x5) (blk_set (blk_set (blk_set (blk_set (blk_set (blk_set (hb) 0 x0) 1 x1) 2 x2) 3 x3) 4 x4) 5 x5) (fun q hq => eTy hE he hq) 6 x6
end
structure OwnD (w0 : World) (g gc : Nat) (d : Int) (A3 : Option Addr) (c3 : Nat) (X : RT) (cl : List S69) (kp wt : ByteArray) (L : Nat → Bool) (v0 v1 v2 s3 s4 s5 s6 s7 s8 s9 s10 s11 s12 s13 s14 s15 s16 s17 s18 s19 s20 s21 : Value) (w : World) : Prop where
 low : Below w0.heap.size w0 w
 m3 : L 0 = true → s3 = .pointer (some ⟨g, 0, none⟩)
 m4 : L 1 = true → s4 = .pointer (some ⟨g, 0, none⟩)
 m5 : L 2 = true → s5 = .pointer (some ⟨g, 0, none⟩)
 m6 : L 3 = true → s6 = .int .i64 d
 m7 : L 4 = true → s7 = .pointer (some ⟨g, 0, none⟩)
 m8 : L 5 = true → s8 = .pointer (some ⟨g, 0, none⟩)
 m9 : L 6 = true → s9 = .pointer (some ⟨g, 1, none⟩)
 m12 : L 9 = true → s12 = .pointer (some ⟨g, 0, none⟩)
 m13 : L 10 = true → s13 = .pointer (some ⟨g, 0, none⟩)
 m14 : L 11 = true → s14 = .pointer (some ⟨g, 4, none⟩)
 m15 : L 12 = true → s15 = .slice A3 cl.length c3
 m17 : L 14 = true → s17 = .pointer (some ⟨g, 0, none⟩)
 m18 : L 15 = true → s18 = .pointer (some ⟨g, 0, none⟩)
 m19 : L 16 = true → s19 = .pointer (some ⟨g, 5, none⟩)
 m20 : L 17 = true → s20 = .agg #[.string kp, .string wt]
 ow : L 7 = true → s10 = .agg #[v0, v1, v2]
 ov : L 7 = true → Kd.R k97 97 w w0.heap.size (fun _ => True) v0 X.1 ∧ Kd.R Kd.string 9 w w0.heap.size (fun _ => True) v1 X.2.1 ∧ Kd.R k101 101 w w0.heap.size (fun _ => True) v2 X.2.2
 b3 : L 8 = true → L 13 = false → Kd.R k69 69 w w0.heap.size (fun _ => True) s11 ([] : List S69)
 a3 : L 13 = true → Kd.R k69 69 w w0.heap.size (fun _ => True) s16 cl
 bd : L 18 = true → s21 = .agg #[.int .i64 d, v0, v1, v2, s16, .string kp, .string wt]
 bw : L 18 = true → L 7 = true ∧ L 13 = true
 bx : L 19 = true → L 18 = true
 cz : L 19 = false → w.heap[gc]? = some (.cells #[.int .i64 0, .slice none 0 0, .slice none 0 0, .slice none 0 0, .slice none 0 0, .string (⟨#[]⟩ : ByteArray), .string (⟨#[]⟩ : ByteArray)] 41 (0, 0))
 ce : L 19 = true → w.heap[gc]? = some (.cells #[.int .i64 d, v0, v1, v2, s16, .string kp, .string wt] 41 (0, 0))
theorem l28Own_at (g : Nat) (d : Int) (A0 A1 A2 A3 : Option Addr) (c0 c1 c2 c3 : Nat) (X : RT) (cl : List S69) (kp wt : ByteArray) (w : World) (hf0 : w.cell? ⟨g, 0, none⟩ = some (.int .i64 d)) (hg0 : w.cell? ⟨g, 1, none⟩ = some (.slice A0 X.1.length c0)) (hg1 : w.cell? ⟨g, 2, none⟩ = some (.slice A1 X.2.1.length c1)) (hg2 : w.cell? ⟨g, 3, none⟩ = some (.slice A2 X.2.2.length c2)) (hf4 : w.cell? ⟨g, 4, none⟩ = some (.slice A3 cl.length c3)) (hf5 : w.cell? ⟨g, 5, none⟩ = some (.string kp)) (hf6 : w.cell? ⟨g, 6, none⟩ = some (.string wt)) (hr0 : Kd.C k97 w A0 X.1.length X.1) (hr1 : Kd.C Kd.string w A1 X.2.1.length X.2.1) (hr2 : Kd.C k101 w A2 X.2.2.length X.2.2) (hr3 : Kd.C k69 w A3 cl.length cl) (hlen : (X.1.length ≤ 1048576 ∧ X.2.1.length ≤ 1048576 ∧ X.2.2.length ≤ 1048576) ∧ cl.length ≤ 1048576) :
  Calls Tryz.prog 39 #[.pointer (some ⟨g, 0, none⟩)] w fun e w' => ∃ v0 v1 v2 v3 : Value, e = .returned (.agg #[.int .i64 d, v0, v1, v2, v3, .string kp, .string wt]) ∧ Kd.R k97 97 w' w.heap.size (fun _ => True) v0 X.1 ∧ Kd.R Kd.string 9 w' w.heap.size (fun _ => True) v1 X.2.1 ∧ Kd.R k101 101 w' w.heap.size (fun _ => True) v2 X.2.2 ∧ Kd.R k69 69 w' w.heap.size (fun _ => True) v3 cl ∧ Below w.heap.size w w' := by
 obtain ⟨hl, hl3⟩ := hlen
 have hu := Tryz.underlying41
 go_enter Tryz.func39, Tryz.ntmps39
 go_upto_region 1 with (first | ((with_reducible refine gd_ 2 rfl ?_); refine be_ 2 #[.int .i64 0, .slice none 0 0, .slice none 0 0, .slice none 0 0, .slice none 0 0, .string (⟨#[]⟩ : ByteArray), .string (⟨#[]⟩ : ByteArray)] 41 ?_; intro gc hg w2 hbox hb; have GC := Nat.le_of_eq hg.symm; clear hg) | fail)
 refine inv_ (fun L a w' => ∃ s1 v0 v1 v2 s3 s4 s5 s6 s7 s8 s9 s10 s11 s12 s13 s14 s15 s16 s17 s18 s19 s20 s21 : Value, a = { tmps := #[.pointer (some ⟨g, 0, none⟩), s1, .pointer (some ⟨gc, 0, none⟩), s3, s4, s5, s6, s7, s8, s9, s10, s11, s12, s13, s14, s15, s16, s17, s18, s19, s20, s21], defers := [] } ∧ OwnD w g gc d A3 c3 X cl kp wt L v0 v1 v2 s3 s4 s5 s6 s7 s8 s9 s10 s11 s12 s13 s14 s15 s16 s17 s18 s19 s20 s21 w') (by kernel_rfl) (by kernel_rfl) ?h0 ?hdone ?hstep
 case h0 =>
  refine ⟨_, undef, undef, undef, _, _, _, _, _, _, _, _, _, _, _, _, _, _, _, _, _, _, _, rfl, ?_⟩
  exact ⟨below_drew1 hb, fun h => absurd h (by simp), fun h => absurd h (by simp), fun h => absurd h (by simp), fun h => absurd h (by simp), fun h => absurd h (by simp), fun h => absurd h (by simp), fun h => absurd h (by simp), fun h => absurd h (by simp), fun h => absurd h (by simp), fun h => absurd h (by simp), fun h => absurd h (by simp), fun h => absurd h (by simp), fun h => absurd h (by simp), fun h => absurd h (by simp), fun h => absurd h (by simp), fun h => absurd h (by simp), fun h => absurd h (by simp), fun h => absurd h (by simp), fun h => absurd h (by simp), fun h => absurd h (by simp), fun h => absurd h (by simp), fun h => absurd h (by simp), fun _ => blk_drew hbox, fun h => absurd h (by simp)⟩
 case hdone =>
  rintro a w9 ⟨s1, v0, v1, v2, s3, s4, s5, s6, s7, s8, s9, s10, s11, s12, s13, s14, s15, s16, s17, s18, s19, s20, s21, rfl, h⟩
  have h0 := h.ov rfl
  have h1 := h.a3 rfl
  have hc := h.ce rfl
  have hlow := h.low
  clear h
  go_wp2
  refine bodyPost_ret (results_cell_row rfl _ _ gc 41 #[.int .i64 d, v0, v1, v2, s16, .string kp, .string wt] (0, 0) _ rfl hc Tryz.underlying41 rfl (by kernel_rfl)) rfl ?_
  exact ⟨_, _, _, _, rfl, h0.1, h0.2.1, h0.2.2, h1, hlow⟩
 case hstep =>
  intro L a w' i o ho hL hd hI
  have hi : i < 20 := (Array.getElem?_eq_some_iff.1 ho).1
  obtain ⟨s1, v0, v1, v2, s3, s4, s5, s6, s7, s8, s9, s10, s11, s12, s13, s14, s15, s16, s17, s18, s19, s20, s21, rfl, h⟩ := hI
  obtain rfl | rfl | rfl | rfl | rfl | rfl | rfl | rfl | rfl | rfl | rfl | rfl | rfl | rfl | rfl | rfl | rfl | rfl | rfl | rfl : i = 0 ∨ i = 1 ∨ i = 2 ∨ i = 3 ∨ i = 4 ∨ i = 5 ∨ i = 6 ∨ i = 7 ∨ i = 8 ∨ i = 9 ∨ i = 10 ∨ i = 11 ∨ i = 12 ∨ i = 13 ∨ i = 14 ∨ i = 15 ∨ i = 16 ∨ i = 17 ∨ i = 18 ∨ i = 19 := by omega
  ·obtain rfl := Option.some.inj ho
   clear hd
   refine wpOp_step rfl fun K hK => ?_
   refine value_ (w1 := w') (v := .pointer (some ⟨g, 0, none⟩)) (by rfl) rfl ?_ ?_
   ·go_simp
    try rfl
   ·refine hK _ _ ⟨s1, v0, v1, v2, (.pointer (some ⟨g, 0, none⟩)), s4, s5, s6, s7, s8, s9, s10, s11, s12, s13, s14, s15, s16, s17, s18, s19, s20, s21, (by show Act.put _ (some 3) _ = _; simp only [Act.put, List.setIfInBounds_toArray, List.set_cons_zero, List.set_cons_succ]), ?_⟩
    exact ⟨h.low, fun _ => rfl, fun hL => h.m4 (sl_ hL), fun hL => h.m5 (sl_ hL), fun hL => h.m6 (sl_ hL), fun hL => h.m7 (sl_ hL), fun hL => h.m8 (sl_ hL), fun hL => h.m9 (sl_ hL), fun hL => h.m12 (sl_ hL), fun hL => h.m13 (sl_ hL), fun hL => h.m14 (sl_ hL), fun hL => h.m15 (sl_ hL), fun hL => h.m17 (sl_ hL), fun hL => h.m18 (sl_ hL), fun hL => h.m19 (sl_ hL), fun hL => h.m20 (sl_ hL), fun hL => h.ow (sl_ hL), fun hL => h.ov (sl_ hL), fun hL hM => h.b3 (sl_ hL) (by simpa using hM), fun hL => h.a3 (sl_ hL), fun hL => h.bd (sl_ hL), fun hL => (h.bw (sl_ hL)).imp (fun h => by simp [h]) (fun h => by simp [h]), fun hL => by have := h.bx (sl_ hL); simp [this], fun hL => h.cz (sl_ hL), fun hL => h.ce (sl_ hL)⟩
  ·obtain rfl := Option.some.inj ho
   have d0 : L 0 = true := hd { on := 0, ground := Go.Ground.data } (by simp) rfl
   clear hd
   obtain rfl := h.m3 d0
   refine wpOp_step rfl fun K hK => ?_
   refine value_ (w1 := w') (v := .pointer (some ⟨g, 0, none⟩)) (by rfl) rfl ?_ ?_
   ·go_simp
    try rfl
   ·refine hK _ _ ⟨s1, v0, v1, v2, (.pointer (some ⟨g, 0, none⟩)), (.pointer (some ⟨g, 0, none⟩)), s5, s6, s7, s8, s9, s10, s11, s12, s13, s14, s15, s16, s17, s18, s19, s20, s21, (by show Act.put _ (some 4) _ = _; simp only [Act.put, List.setIfInBounds_toArray, List.set_cons_zero, List.set_cons_succ]), ?_⟩
    exact ⟨h.low, fun hL => h.m3 (sl_ hL), fun _ => rfl, fun hL => h.m5 (sl_ hL), fun hL => h.m6 (sl_ hL), fun hL => h.m7 (sl_ hL), fun hL => h.m8 (sl_ hL), fun hL => h.m9 (sl_ hL), fun hL => h.m12 (sl_ hL), fun hL => h.m13 (sl_ hL), fun hL => h.m14 (sl_ hL), fun hL => h.m15 (sl_ hL), fun hL => h.m17 (sl_ hL), fun hL => h.m18 (sl_ hL), fun hL => h.m19 (sl_ hL), fun hL => h.m20 (sl_ hL), fun hL => h.ow (sl_ hL), fun hL => h.ov (sl_ hL), fun hL hM => h.b3 (sl_ hL) (by simpa using hM), fun hL => h.a3 (sl_ hL), fun hL => h.bd (sl_ hL), fun hL => (h.bw (sl_ hL)).imp (fun h => by simp [h]) (fun h => by simp [h]), fun hL => by have := h.bx (sl_ hL); simp [this], fun hL => h.cz (sl_ hL), fun hL => h.ce (sl_ hL)⟩
  ·obtain rfl := Option.some.inj ho
   have d1 : L 1 = true := hd { on := 1, ground := Go.Ground.data } (by simp) rfl
   clear hd
   obtain rfl := h.m4 d1
   refine wpOp_step rfl fun K hK => ?_
   refine value_ (w1 := w') (v := .pointer (some ⟨g, 0, none⟩)) (by rfl) rfl ?_ ?_
   ·go_simp
    try rfl
   ·refine hK _ _ ⟨s1, v0, v1, v2, s3, (.pointer (some ⟨g, 0, none⟩)), (.pointer (some ⟨g, 0, none⟩)), s6, s7, s8, s9, s10, s11, s12, s13, s14, s15, s16, s17, s18, s19, s20, s21, (by show Act.put _ (some 5) _ = _; simp only [Act.put, List.setIfInBounds_toArray, List.set_cons_zero, List.set_cons_succ]), ?_⟩
    exact ⟨h.low, fun hL => h.m3 (sl_ hL), fun hL => h.m4 (sl_ hL), fun _ => rfl, fun hL => h.m6 (sl_ hL), fun hL => h.m7 (sl_ hL), fun hL => h.m8 (sl_ hL), fun hL => h.m9 (sl_ hL), fun hL => h.m12 (sl_ hL), fun hL => h.m13 (sl_ hL), fun hL => h.m14 (sl_ hL), fun hL => h.m15 (sl_ hL), fun hL => h.m17 (sl_ hL), fun hL => h.m18 (sl_ hL), fun hL => h.m19 (sl_ hL), fun hL => h.m20 (sl_ hL), fun hL => h.ow (sl_ hL), fun hL => h.ov (sl_ hL), fun hL hM => h.b3 (sl_ hL) (by simpa using hM), fun hL => h.a3 (sl_ hL), fun hL => h.bd (sl_ hL), fun hL => (h.bw (sl_ hL)).imp (fun h => by simp [h]) (fun h => by simp [h]), fun hL => by have := h.bx (sl_ hL); simp [this], fun hL => h.cz (sl_ hL), fun hL => h.ce (sl_ hL)⟩
  ·obtain rfl := Option.some.inj ho
   have d2 : L 2 = true := hd { on := 2, ground := Go.Ground.data } (by simp) rfl
   clear hd
   obtain rfl := h.m5 d2
   have hcl := pw_cell_below h.low hf0
   refine wpOp_step rfl fun K hK => ?_
   refine value_ (w1 := w') (v := .int .i64 d) (by rfl) rfl ?_ ?_
   ·go_simp
    try rfl
   ·refine hK _ _ ⟨s1, v0, v1, v2, s3, s4, (.pointer (some ⟨g, 0, none⟩)), (.int .i64 d), s7, s8, s9, s10, s11, s12, s13, s14, s15, s16, s17, s18, s19, s20, s21, (by show Act.put _ (some 6) _ = _; simp only [Act.put, List.setIfInBounds_toArray, List.set_cons_zero, List.set_cons_succ]), ?_⟩
    exact ⟨h.low, fun hL => h.m3 (sl_ hL), fun hL => h.m4 (sl_ hL), fun hL => h.m5 (sl_ hL), fun _ => rfl, fun hL => h.m7 (sl_ hL), fun hL => h.m8 (sl_ hL), fun hL => h.m9 (sl_ hL), fun hL => h.m12 (sl_ hL), fun hL => h.m13 (sl_ hL), fun hL => h.m14 (sl_ hL), fun hL => h.m15 (sl_ hL), fun hL => h.m17 (sl_ hL), fun hL => h.m18 (sl_ hL), fun hL => h.m19 (sl_ hL), fun hL => h.m20 (sl_ hL), fun hL => h.ow (sl_ hL), fun hL => h.ov (sl_ hL), fun hL hM => h.b3 (sl_ hL) (by simpa using hM), fun hL => h.a3 (sl_ hL), fun hL => h.bd (sl_ hL), fun hL => (h.bw (sl_ hL)).imp (fun h => by simp [h]) (fun h => by simp [h]), fun hL => by have := h.bx (sl_ hL); simp [this], fun hL => h.cz (sl_ hL), fun hL => h.ce (sl_ hL)⟩
  ·obtain rfl := Option.some.inj ho
   clear hd
   refine wpOp_step rfl fun K hK => ?_
   refine value_ (w1 := w') (v := .pointer (some ⟨g, 0, none⟩)) (by rfl) rfl ?_ ?_
   ·go_simp
    try rfl
   ·refine hK _ _ ⟨s1, v0, v1, v2, s3, s4, s5, s6, (.pointer (some ⟨g, 0, none⟩)), s8, s9, s10, s11, s12, s13, s14, s15, s16, s17, s18, s19, s20, s21, (by show Act.put _ (some 7) _ = _; simp only [Act.put, List.setIfInBounds_toArray, List.set_cons_zero, List.set_cons_succ]), ?_⟩
    exact ⟨h.low, fun hL => h.m3 (sl_ hL), fun hL => h.m4 (sl_ hL), fun hL => h.m5 (sl_ hL), fun hL => h.m6 (sl_ hL), fun _ => rfl, fun hL => h.m8 (sl_ hL), fun hL => h.m9 (sl_ hL), fun hL => h.m12 (sl_ hL), fun hL => h.m13 (sl_ hL), fun hL => h.m14 (sl_ hL), fun hL => h.m15 (sl_ hL), fun hL => h.m17 (sl_ hL), fun hL => h.m18 (sl_ hL), fun hL => h.m19 (sl_ hL), fun hL => h.m20 (sl_ hL), fun hL => h.ow (sl_ hL), fun hL => h.ov (sl_ hL), fun hL hM => h.b3 (sl_ hL) (by simpa using hM), fun hL => h.a3 (sl_ hL), fun hL => h.bd (sl_ hL), fun hL => (h.bw (sl_ hL)).imp (fun h => by simp [h]) (fun h => by simp [h]), fun hL => by have := h.bx (sl_ hL); simp [this], fun hL => h.cz (sl_ hL), fun hL => h.ce (sl_ hL)⟩
  ·obtain rfl := Option.some.inj ho
   have d4 : L 4 = true := hd { on := 4, ground := Go.Ground.data } (by simp) rfl
   clear hd
   obtain rfl := h.m7 d4
   refine wpOp_step rfl fun K hK => ?_
   refine value_ (w1 := w') (v := .pointer (some ⟨g, 0, none⟩)) (by rfl) rfl ?_ ?_
   ·go_simp
    try rfl
   ·refine hK _ _ ⟨s1, v0, v1, v2, s3, s4, s5, s6, (.pointer (some ⟨g, 0, none⟩)), (.pointer (some ⟨g, 0, none⟩)), s9, s10, s11, s12, s13, s14, s15, s16, s17, s18, s19, s20, s21, (by show Act.put _ (some 8) _ = _; simp only [Act.put, List.setIfInBounds_toArray, List.set_cons_zero, List.set_cons_succ]), ?_⟩
    exact ⟨h.low, fun hL => h.m3 (sl_ hL), fun hL => h.m4 (sl_ hL), fun hL => h.m5 (sl_ hL), fun hL => h.m6 (sl_ hL), fun hL => h.m7 (sl_ hL), fun _ => rfl, fun hL => h.m9 (sl_ hL), fun hL => h.m12 (sl_ hL), fun hL => h.m13 (sl_ hL), fun hL => h.m14 (sl_ hL), fun hL => h.m15 (sl_ hL), fun hL => h.m17 (sl_ hL), fun hL => h.m18 (sl_ hL), fun hL => h.m19 (sl_ hL), fun hL => h.m20 (sl_ hL), fun hL => h.ow (sl_ hL), fun hL => h.ov (sl_ hL), fun hL hM => h.b3 (sl_ hL) (by simpa using hM), fun hL => h.a3 (sl_ hL), fun hL => h.bd (sl_ hL), fun hL => (h.bw (sl_ hL)).imp (fun h => by simp [h]) (fun h => by simp [h]), fun hL => by have := h.bx (sl_ hL); simp [this], fun hL => h.cz (sl_ hL), fun hL => h.ce (sl_ hL)⟩
  ·obtain rfl := Option.some.inj ho
   have d5 : L 5 = true := hd { on := 5, ground := Go.Ground.data } (by simp) rfl
   clear hd
   obtain rfl := h.m8 d5
   refine wpOp_step rfl fun K hK => ?_
   refine value_ (w1 := w') (v := .pointer (some ⟨g, 1, none⟩)) (by rfl) rfl ?_ ?_
   ·go_simp
    try rfl
   ·refine hK _ _ ⟨s1, v0, v1, v2, s3, s4, s5, s6, s7, (.pointer (some ⟨g, 0, none⟩)), (.pointer (some ⟨g, 1, none⟩)), s10, s11, s12, s13, s14, s15, s16, s17, s18, s19, s20, s21, (by show Act.put _ (some 9) _ = _; simp only [Act.put, List.setIfInBounds_toArray, List.set_cons_zero, List.set_cons_succ]), ?_⟩
    exact ⟨h.low, fun hL => h.m3 (sl_ hL), fun hL => h.m4 (sl_ hL), fun hL => h.m5 (sl_ hL), fun hL => h.m6 (sl_ hL), fun hL => h.m7 (sl_ hL), fun hL => h.m8 (sl_ hL), fun _ => rfl, fun hL => h.m12 (sl_ hL), fun hL => h.m13 (sl_ hL), fun hL => h.m14 (sl_ hL), fun hL => h.m15 (sl_ hL), fun hL => h.m17 (sl_ hL), fun hL => h.m18 (sl_ hL), fun hL => h.m19 (sl_ hL), fun hL => h.m20 (sl_ hL), fun hL => h.ow (sl_ hL), fun hL => h.ov (sl_ hL), fun hL hM => h.b3 (sl_ hL) (by simpa using hM), fun hL => h.a3 (sl_ hL), fun hL => h.bd (sl_ hL), fun hL => (h.bw (sl_ hL)).imp (fun h => by simp [h]) (fun h => by simp [h]), fun hL => by have := h.bx (sl_ hL); simp [this], fun hL => h.cz (sl_ hL), fun hL => h.ce (sl_ hL)⟩
  ·obtain rfl := Option.some.inj ho
   have d6 : L 6 = true := hd { on := 6, ground := Go.Ground.data } (by simp) rfl
   clear hd
   obtain rfl := h.m9 d6
   refine wpOp_step rfl fun K hK => ?_
   refine goes_ Tryz.func72 (by kernel_rfl) rfl #[.pointer (some ⟨g, 1, none⟩)] (by rfl) rfl rfl (by simp only [List.map_toArray, List.map_cons, List.map_nil]; rfl) ?_
   with_reducible refine (l19Own_at g A0 A1 A2 c0 c1 c2 X w' (pw_cell_below h.low hg0) (pw_cell_below h.low hg1) (pw_cell_below h.low hg2) (Kd.C_below hr0 h.low) (Kd.C_below hr1 h.low) (Kd.C_below hr2 h.low) hl).mono ?_
   rintro e w1 ⟨u0, u1, u2, rfl, t0, t1, t2, hb7⟩
   refine ⟨_, rfl, ?_⟩
   refine hK _ _ ⟨s1, u0, u1, u2, s3, s4, s5, s6, s7, s8, (.pointer (some ⟨g, 1, none⟩)), (.agg #[u0, u1, u2]), s11, s12, s13, s14, s15, s16, s17, s18, s19, s20, s21, (by show Act.put _ (some 10) _ = _; simp only [Act.put, List.setIfInBounds_toArray, List.set_cons_zero, List.set_cons_succ]), ?_⟩
   exact ⟨below_step h.low hb7, fun hL => h.m3 (sl_ hL), fun hL => h.m4 (sl_ hL), fun hL => h.m5 (sl_ hL), fun hL => h.m6 (sl_ hL), fun hL => h.m7 (sl_ hL), fun hL => h.m8 (sl_ hL), fun hL => h.m9 (sl_ hL), fun hL => h.m12 (sl_ hL), fun hL => h.m13 (sl_ hL), fun hL => h.m14 (sl_ hL), fun hL => h.m15 (sl_ hL), fun hL => h.m17 (sl_ hL), fun hL => h.m18 (sl_ hL), fun hL => h.m19 (sl_ hL), fun hL => h.m20 (sl_ hL), fun _ => rfl, fun _ => ⟨Kd.R_lower t0 (below_size h.low), Kd.R_lower t1 (below_size h.low), Kd.R_lower t2 (below_size h.low)⟩, fun hL hM => Kd.R_below (h.b3 (sl_ hL) (by simpa using hM)) hb7, fun hL => Kd.R_below (h.a3 (sl_ hL)) hb7, fun hM => absurd (h.bw (by simpa using hM)).1 (by simp [hL]), fun hL => (h.bw (sl_ hL)).imp (fun h => by simp [h]) (fun h => by simp [h]), fun hL => by have := h.bx (sl_ hL); simp [this], fun hL => blk_below (h.cz (sl_ hL)) hb7, fun hM => absurd (h.bw (h.bx (by simpa using hM))).1 (by simp [hL])⟩
  ·obtain rfl := Option.some.inj ho
   clear hd
   refine wpOp_step rfl fun K hK => ?_
   refine Kd.R_lit_step k69 _ 69 ?hg (N := 11) ?hd (xs := ([] : List S69)) (inner := []) (ok := fun _ => True) (okp := fun _ => True) ?hr ?hp (fun _ hk => hk) trivial (Below.refl _ _) (Nat.le_refl _) (by simp) ?_
   (case hd => rfl)
   (case hg => rfl)
   (case hr => first | (go_simp; done) | (go_simp; rfl))
   (case hp => exact (Reps.none _ _))
   intro v w1 ho hb hg_ hnew_
   refine hK _ _ ⟨s1, v0, v1, v2, s3, s4, s5, s6, s7, s8, s9, s10, v, s12, s13, s14, s15, s16, s17, s18, s19, s20, s21, (by show Act.put _ (some 11) _ = _; simp only [Act.put, List.setIfInBounds_toArray, List.set_cons_zero, List.set_cons_succ]), ?_⟩
   exact ⟨below_step h.low hb, fun hL => h.m3 (sl_ hL), fun hL => h.m4 (sl_ hL), fun hL => h.m5 (sl_ hL), fun hL => h.m6 (sl_ hL), fun hL => h.m7 (sl_ hL), fun hL => h.m8 (sl_ hL), fun hL => h.m9 (sl_ hL), fun hL => h.m12 (sl_ hL), fun hL => h.m13 (sl_ hL), fun hL => h.m14 (sl_ hL), fun hL => h.m15 (sl_ hL), fun hL => h.m17 (sl_ hL), fun hL => h.m18 (sl_ hL), fun hL => h.m19 (sl_ hL), fun hL => h.m20 (sl_ hL), fun hL => h.ow (sl_ hL), fun hL => (h.ov (sl_ hL)).imp (fun q => Kd.R_below q hb) (And.imp (fun q => Kd.R_below q hb) (fun q => Kd.R_below q hb)), fun _ _ => Kd.R_lower ho (below_size h.low), fun hL => Kd.R_below (h.a3 (sl_ hL)) hb, fun hL => h.bd (sl_ hL), fun hL => (h.bw (sl_ hL)).imp (fun h => by simp [h]) (fun h => by simp [h]), fun hL => by have := h.bx (sl_ hL); simp [this], fun hL => blk_below (h.cz (sl_ hL)) hb, fun hL => blk_below (h.ce (sl_ hL)) hb⟩
  ·obtain rfl := Option.some.inj ho
   clear hd
   refine wpOp_step rfl fun K hK => ?_
   refine value_ (w1 := w') (v := .pointer (some ⟨g, 0, none⟩)) (by rfl) rfl ?_ ?_
   ·go_simp
    try rfl
   ·refine hK _ _ ⟨s1, v0, v1, v2, s3, s4, s5, s6, s7, s8, s9, s10, s11, (.pointer (some ⟨g, 0, none⟩)), s13, s14, s15, s16, s17, s18, s19, s20, s21, (by show Act.put _ (some 12) _ = _; simp only [Act.put, List.setIfInBounds_toArray, List.set_cons_zero, List.set_cons_succ]), ?_⟩
    exact ⟨h.low, fun hL => h.m3 (sl_ hL), fun hL => h.m4 (sl_ hL), fun hL => h.m5 (sl_ hL), fun hL => h.m6 (sl_ hL), fun hL => h.m7 (sl_ hL), fun hL => h.m8 (sl_ hL), fun hL => h.m9 (sl_ hL), fun _ => rfl, fun hL => h.m13 (sl_ hL), fun hL => h.m14 (sl_ hL), fun hL => h.m15 (sl_ hL), fun hL => h.m17 (sl_ hL), fun hL => h.m18 (sl_ hL), fun hL => h.m19 (sl_ hL), fun hL => h.m20 (sl_ hL), fun hL => h.ow (sl_ hL), fun hL => h.ov (sl_ hL), fun hL hM => h.b3 (sl_ hL) (by simpa using hM), fun hL => h.a3 (sl_ hL), fun hL => h.bd (sl_ hL), fun hL => (h.bw (sl_ hL)).imp (fun h => by simp [h]) (fun h => by simp [h]), fun hL => by have := h.bx (sl_ hL); simp [this], fun hL => h.cz (sl_ hL), fun hL => h.ce (sl_ hL)⟩
  ·obtain rfl := Option.some.inj ho
   have d9 : L 9 = true := hd { on := 9, ground := Go.Ground.data } (by simp) rfl
   clear hd
   obtain rfl := h.m12 d9
   refine wpOp_step rfl fun K hK => ?_
   refine value_ (w1 := w') (v := .pointer (some ⟨g, 0, none⟩)) (by rfl) rfl ?_ ?_
   ·go_simp
    try rfl
   ·refine hK _ _ ⟨s1, v0, v1, v2, s3, s4, s5, s6, s7, s8, s9, s10, s11, (.pointer (some ⟨g, 0, none⟩)), (.pointer (some ⟨g, 0, none⟩)), s14, s15, s16, s17, s18, s19, s20, s21, (by show Act.put _ (some 13) _ = _; simp only [Act.put, List.setIfInBounds_toArray, List.set_cons_zero, List.set_cons_succ]), ?_⟩
    exact ⟨h.low, fun hL => h.m3 (sl_ hL), fun hL => h.m4 (sl_ hL), fun hL => h.m5 (sl_ hL), fun hL => h.m6 (sl_ hL), fun hL => h.m7 (sl_ hL), fun hL => h.m8 (sl_ hL), fun hL => h.m9 (sl_ hL), fun hL => h.m12 (sl_ hL), fun _ => rfl, fun hL => h.m14 (sl_ hL), fun hL => h.m15 (sl_ hL), fun hL => h.m17 (sl_ hL), fun hL => h.m18 (sl_ hL), fun hL => h.m19 (sl_ hL), fun hL => h.m20 (sl_ hL), fun hL => h.ow (sl_ hL), fun hL => h.ov (sl_ hL), fun hL hM => h.b3 (sl_ hL) (by simpa using hM), fun hL => h.a3 (sl_ hL), fun hL => h.bd (sl_ hL), fun hL => (h.bw (sl_ hL)).imp (fun h => by simp [h]) (fun h => by simp [h]), fun hL => by have := h.bx (sl_ hL); simp [this], fun hL => h.cz (sl_ hL), fun hL => h.ce (sl_ hL)⟩
  ·obtain rfl := Option.some.inj ho
   have d10 : L 10 = true := hd { on := 10, ground := Go.Ground.data } (by simp) rfl
   clear hd
   obtain rfl := h.m13 d10
   refine wpOp_step rfl fun K hK => ?_
   refine value_ (w1 := w') (v := .pointer (some ⟨g, 4, none⟩)) (by rfl) rfl ?_ ?_
   ·go_simp
    try rfl
   ·refine hK _ _ ⟨s1, v0, v1, v2, s3, s4, s5, s6, s7, s8, s9, s10, s11, s12, (.pointer (some ⟨g, 0, none⟩)), (.pointer (some ⟨g, 4, none⟩)), s15, s16, s17, s18, s19, s20, s21, (by show Act.put _ (some 14) _ = _; simp only [Act.put, List.setIfInBounds_toArray, List.set_cons_zero, List.set_cons_succ]), ?_⟩
    exact ⟨h.low, fun hL => h.m3 (sl_ hL), fun hL => h.m4 (sl_ hL), fun hL => h.m5 (sl_ hL), fun hL => h.m6 (sl_ hL), fun hL => h.m7 (sl_ hL), fun hL => h.m8 (sl_ hL), fun hL => h.m9 (sl_ hL), fun hL => h.m12 (sl_ hL), fun hL => h.m13 (sl_ hL), fun _ => rfl, fun hL => h.m15 (sl_ hL), fun hL => h.m17 (sl_ hL), fun hL => h.m18 (sl_ hL), fun hL => h.m19 (sl_ hL), fun hL => h.m20 (sl_ hL), fun hL => h.ow (sl_ hL), fun hL => h.ov (sl_ hL), fun hL hM => h.b3 (sl_ hL) (by simpa using hM), fun hL => h.a3 (sl_ hL), fun hL => h.bd (sl_ hL), fun hL => (h.bw (sl_ hL)).imp (fun h => by simp [h]) (fun h => by simp [h]), fun hL => by have := h.bx (sl_ hL); simp [this], fun hL => h.cz (sl_ hL), fun hL => h.ce (sl_ hL)⟩
  ·obtain rfl := Option.some.inj ho
   have d11 : L 11 = true := hd { on := 11, ground := Go.Ground.data } (by simp) rfl
   clear hd
   obtain rfl := h.m14 d11
   have hcl := pw_cell_below h.low hf4
   refine wpOp_step rfl fun K hK => ?_
   refine value_ (w1 := w') (v := .slice A3 cl.length c3) (by rfl) rfl ?_ ?_
   ·go_simp
    try rfl
   ·refine hK _ _ ⟨s1, v0, v1, v2, s3, s4, s5, s6, s7, s8, s9, s10, s11, s12, s13, (.pointer (some ⟨g, 4, none⟩)), (.slice A3 cl.length c3), s16, s17, s18, s19, s20, s21, (by show Act.put _ (some 15) _ = _; simp only [Act.put, List.setIfInBounds_toArray, List.set_cons_zero, List.set_cons_succ]), ?_⟩
    exact ⟨h.low, fun hL => h.m3 (sl_ hL), fun hL => h.m4 (sl_ hL), fun hL => h.m5 (sl_ hL), fun hL => h.m6 (sl_ hL), fun hL => h.m7 (sl_ hL), fun hL => h.m8 (sl_ hL), fun hL => h.m9 (sl_ hL), fun hL => h.m12 (sl_ hL), fun hL => h.m13 (sl_ hL), fun hL => h.m14 (sl_ hL), fun _ => rfl, fun hL => h.m17 (sl_ hL), fun hL => h.m18 (sl_ hL), fun hL => h.m19 (sl_ hL), fun hL => h.m20 (sl_ hL), fun hL => h.ow (sl_ hL), fun hL => h.ov (sl_ hL), fun hL hM => h.b3 (sl_ hL) (by simpa using hM), fun hL => h.a3 (sl_ hL), fun hL => h.bd (sl_ hL), fun hL => (h.bw (sl_ hL)).imp (fun h => by simp [h]) (fun h => by simp [h]), fun hL => by have := h.bx (sl_ hL); simp [this], fun hL => h.cz (sl_ hL), fun hL => h.ce (sl_ hL)⟩
  ·obtain rfl := Option.some.inj ho
   have d8 : L 8 = true := hd { on := 8, ground := Go.Ground.data } (by simp) rfl
   have d12 : L 12 = true := hd { on := 12, ground := Go.Ground.data } (by simp) rfl
   have d7 : L 7 = true := hd { on := 7, ground := Go.Ground.chain } (by simp) rfl
   clear hd
   obtain rfl := h.m15 d12
   have hO := h.b3 d8 hL
   refine wpOp_step rfl fun K hK => ?_
   refine Kd.R_append_rows_step k69 (w0 := w) w.heap.size (by rfl) (.tmp 11) (.tmp 15) 38 69 (.agg #[(.string ⟨#[]⟩), (.int .i64 0)]) 24 rfl Tryz.underlying38 info69 rfl (by decide) (by omega) s11 [] cl _ _ _ (fun _ => True) (fun _ => False) rfl rfl ?aO ?aR (fun _ _ h => h) (fun _ h => h.elim) ?aF ?aB ?aS ?aL ?_
   case aR => exact Kd.C_below hr3 h.low
   case aB => exact h.low
   case aF => exact (fun _ _ => trivial)
   case aO => exact hO
   case aS => exact below_size h.low
   case aL => simp; omega
   intro v w1 ho hb hg hat
   rw [List.nil_append] at ho
   refine hK _ _ ⟨s1, v0, v1, v2, s3, s4, s5, s6, s7, s8, s9, s10, s11, s12, s13, s14, (.slice A3 cl.length c3), v, s17, s18, s19, s20, s21, (by show Act.put _ (some 16) _ = _; simp only [Act.put, List.setIfInBounds_toArray, List.set_cons_zero, List.set_cons_succ]), ?_⟩
   exact ⟨hb, fun hL => h.m3 (sl_ hL), fun hL => h.m4 (sl_ hL), fun hL => h.m5 (sl_ hL), fun hL => h.m6 (sl_ hL), fun hL => h.m7 (sl_ hL), fun hL => h.m8 (sl_ hL), fun hL => h.m9 (sl_ hL), fun hL => h.m12 (sl_ hL), fun hL => h.m13 (sl_ hL), fun hL => h.m14 (sl_ hL), fun hL => h.m15 (sl_ hL), fun hL => h.m17 (sl_ hL), fun hL => h.m18 (sl_ hL), fun hL => h.m19 (sl_ hL), fun hL => h.m20 (sl_ hL), fun hL => h.ow (sl_ hL), fun hL => (h.ov (sl_ hL)).imp (fun z => Kd.R_over z hO (fun q hq => eTy rfl (by decide) hq) hg) (And.imp (fun z => Kd.R_over z hO (fun q hq => eTy rfl (by decide) hq) hg) (fun z => Kd.R_over z hO (fun q hq => eTy rfl (by decide) hq) hg)), fun _ hM => absurd hM (by simp), fun _ => ho, fun hM => absurd (h.bw (by simpa using hM)).2 (by simp [hL]), fun hL => (h.bw (sl_ hL)).imp (fun h => by simp [h]) (fun h => by simp [h]), fun hL => by have := h.bx (sl_ hL); simp [this], fun hL => blk_grown (h.cz (sl_ hL)) hg (Kd.R_ne hO (h.cz (sl_ hL)) (by decide)), fun hM => absurd (h.bw (h.bx (by simpa using hM))).2 (by simp [hL])⟩
  ·obtain rfl := Option.some.inj ho
   clear hd
   refine wpOp_step rfl fun K hK => ?_
   refine value_ (w1 := w') (v := .pointer (some ⟨g, 0, none⟩)) (by rfl) rfl ?_ ?_
   ·go_simp
    try rfl
   ·refine hK _ _ ⟨s1, v0, v1, v2, s3, s4, s5, s6, s7, s8, s9, s10, s11, s12, s13, s14, s15, s16, (.pointer (some ⟨g, 0, none⟩)), s18, s19, s20, s21, (by show Act.put _ (some 17) _ = _; simp only [Act.put, List.setIfInBounds_toArray, List.set_cons_zero, List.set_cons_succ]), ?_⟩
    exact ⟨h.low, fun hL => h.m3 (sl_ hL), fun hL => h.m4 (sl_ hL), fun hL => h.m5 (sl_ hL), fun hL => h.m6 (sl_ hL), fun hL => h.m7 (sl_ hL), fun hL => h.m8 (sl_ hL), fun hL => h.m9 (sl_ hL), fun hL => h.m12 (sl_ hL), fun hL => h.m13 (sl_ hL), fun hL => h.m14 (sl_ hL), fun hL => h.m15 (sl_ hL), fun _ => rfl, fun hL => h.m18 (sl_ hL), fun hL => h.m19 (sl_ hL), fun hL => h.m20 (sl_ hL), fun hL => h.ow (sl_ hL), fun hL => h.ov (sl_ hL), fun hL hM => h.b3 (sl_ hL) (by simpa using hM), fun hL => h.a3 (sl_ hL), fun hL => h.bd (sl_ hL), fun hL => (h.bw (sl_ hL)).imp (fun h => by simp [h]) (fun h => by simp [h]), fun hL => by have := h.bx (sl_ hL); simp [this], fun hL => h.cz (sl_ hL), fun hL => h.ce (sl_ hL)⟩
  ·obtain rfl := Option.some.inj ho
   have d14 : L 14 = true := hd { on := 14, ground := Go.Ground.data } (by simp) rfl
   clear hd
   obtain rfl := h.m17 d14
   refine wpOp_step rfl fun K hK => ?_
   refine value_ (w1 := w') (v := .pointer (some ⟨g, 0, none⟩)) (by rfl) rfl ?_ ?_
   ·go_simp
    try rfl
   ·refine hK _ _ ⟨s1, v0, v1, v2, s3, s4, s5, s6, s7, s8, s9, s10, s11, s12, s13, s14, s15, s16, (.pointer (some ⟨g, 0, none⟩)), (.pointer (some ⟨g, 0, none⟩)), s19, s20, s21, (by show Act.put _ (some 18) _ = _; simp only [Act.put, List.setIfInBounds_toArray, List.set_cons_zero, List.set_cons_succ]), ?_⟩
    exact ⟨h.low, fun hL => h.m3 (sl_ hL), fun hL => h.m4 (sl_ hL), fun hL => h.m5 (sl_ hL), fun hL => h.m6 (sl_ hL), fun hL => h.m7 (sl_ hL), fun hL => h.m8 (sl_ hL), fun hL => h.m9 (sl_ hL), fun hL => h.m12 (sl_ hL), fun hL => h.m13 (sl_ hL), fun hL => h.m14 (sl_ hL), fun hL => h.m15 (sl_ hL), fun hL => h.m17 (sl_ hL), fun _ => rfl, fun hL => h.m19 (sl_ hL), fun hL => h.m20 (sl_ hL), fun hL => h.ow (sl_ hL), fun hL => h.ov (sl_ hL), fun hL hM => h.b3 (sl_ hL) (by simpa using hM), fun hL => h.a3 (sl_ hL), fun hL => h.bd (sl_ hL), fun hL => (h.bw (sl_ hL)).imp (fun h => by simp [h]) (fun h => by simp [h]), fun hL => by have := h.bx (sl_ hL); simp [this], fun hL => h.cz (sl_ hL), fun hL => h.ce (sl_ hL)⟩
  ·obtain rfl := Option.some.inj ho
   have d15 : L 15 = true := hd { on := 15, ground := Go.Ground.data } (by simp) rfl
   clear hd
   obtain rfl := h.m18 d15
   refine wpOp_step rfl fun K hK => ?_
   refine value_ (w1 := w') (v := .pointer (some ⟨g, 5, none⟩)) (by rfl) rfl ?_ ?_
   ·go_simp
    try rfl
   ·refine hK _ _ ⟨s1, v0, v1, v2, s3, s4, s5, s6, s7, s8, s9, s10, s11, s12, s13, s14, s15, s16, s17, (.pointer (some ⟨g, 0, none⟩)), (.pointer (some ⟨g, 5, none⟩)), s20, s21, (by show Act.put _ (some 19) _ = _; simp only [Act.put, List.setIfInBounds_toArray, List.set_cons_zero, List.set_cons_succ]), ?_⟩
    exact ⟨h.low, fun hL => h.m3 (sl_ hL), fun hL => h.m4 (sl_ hL), fun hL => h.m5 (sl_ hL), fun hL => h.m6 (sl_ hL), fun hL => h.m7 (sl_ hL), fun hL => h.m8 (sl_ hL), fun hL => h.m9 (sl_ hL), fun hL => h.m12 (sl_ hL), fun hL => h.m13 (sl_ hL), fun hL => h.m14 (sl_ hL), fun hL => h.m15 (sl_ hL), fun hL => h.m17 (sl_ hL), fun hL => h.m18 (sl_ hL), fun _ => rfl, fun hL => h.m20 (sl_ hL), fun hL => h.ow (sl_ hL), fun hL => h.ov (sl_ hL), fun hL hM => h.b3 (sl_ hL) (by simpa using hM), fun hL => h.a3 (sl_ hL), fun hL => h.bd (sl_ hL), fun hL => (h.bw (sl_ hL)).imp (fun h => by simp [h]) (fun h => by simp [h]), fun hL => by have := h.bx (sl_ hL); simp [this], fun hL => h.cz (sl_ hL), fun hL => h.ce (sl_ hL)⟩
  ·obtain rfl := Option.some.inj ho
   have d16 : L 16 = true := hd { on := 16, ground := Go.Ground.data } (by simp) rfl
   clear hd
   obtain rfl := h.m19 d16
   have hcl := pw_cell_below h.low hf5
   have hcl2 := pw_cell_below h.low hf6
   refine wpOp_step rfl fun K hK => ?_
   refine value_ (w1 := w') (v := .agg #[.string kp, .string wt]) (by rfl) rfl ?_ ?_
   ·go_simp
    try rfl
   ·refine hK _ _ ⟨s1, v0, v1, v2, s3, s4, s5, s6, s7, s8, s9, s10, s11, s12, s13, s14, s15, s16, s17, s18, (.pointer (some ⟨g, 5, none⟩)), (.agg #[.string kp, .string wt]), s21, (by show Act.put _ (some 20) _ = _; simp only [Act.put, List.setIfInBounds_toArray, List.set_cons_zero, List.set_cons_succ]), ?_⟩
    exact ⟨h.low, fun hL => h.m3 (sl_ hL), fun hL => h.m4 (sl_ hL), fun hL => h.m5 (sl_ hL), fun hL => h.m6 (sl_ hL), fun hL => h.m7 (sl_ hL), fun hL => h.m8 (sl_ hL), fun hL => h.m9 (sl_ hL), fun hL => h.m12 (sl_ hL), fun hL => h.m13 (sl_ hL), fun hL => h.m14 (sl_ hL), fun hL => h.m15 (sl_ hL), fun hL => h.m17 (sl_ hL), fun hL => h.m18 (sl_ hL), fun hL => h.m19 (sl_ hL), fun _ => rfl, fun hL => h.ow (sl_ hL), fun hL => h.ov (sl_ hL), fun hL hM => h.b3 (sl_ hL) (by simpa using hM), fun hL => h.a3 (sl_ hL), fun hL => h.bd (sl_ hL), fun hL => (h.bw (sl_ hL)).imp (fun h => by simp [h]) (fun h => by simp [h]), fun hL => by have := h.bx (sl_ hL); simp [this], fun hL => h.cz (sl_ hL), fun hL => h.ce (sl_ hL)⟩
  ·obtain rfl := Option.some.inj ho
   have d3 : L 3 = true := hd { on := 3, ground := Go.Ground.data } (by simp) rfl
   have d7 : L 7 = true := hd { on := 7, ground := Go.Ground.data } (by simp) rfl
   have d13 : L 13 = true := hd { on := 13, ground := Go.Ground.data } (by simp) rfl
   have d17 : L 17 = true := hd { on := 17, ground := Go.Ground.data } (by simp) rfl
   clear hd
   obtain rfl := h.m6 d3
   obtain rfl := h.ow d7
   obtain rfl := h.m20 d17
   obtain ⟨⟨B0, d0_, e0_⟩, ⟨B1, d1_, e1_⟩, ⟨B2, d2_, e2_⟩⟩ := And.intro (Kd.R_slice (h.ov d7).1) (And.intro (Kd.R_slice (h.ov d7).2.1) (Kd.R_slice (h.ov d7).2.2))
   obtain ⟨B3, d3_, e3_⟩ := Kd.R_slice (h.a3 d13)
   subst e0_
   subst e1_
   subst e2_
   subst e3_
   refine wpOp_step rfl fun K hK => ?_
   refine value_ (w1 := w') (v := (.agg #[.int .i64 d, .slice B0 X.1.length d0_, .slice B1 X.2.1.length d1_, .slice B2 X.2.2.length d2_, .slice B3 cl.length d3_, .string kp, .string wt])) (by rfl) rfl ?_ ?_
   ·go_simp
    try rfl
   ·refine hK _ _ ⟨s1, (.slice B0 X.1.length d0_), (.slice B1 X.2.1.length d1_), (.slice B2 X.2.2.length d2_), s3, s4, s5, (.int .i64 d), s7, s8, s9, (.agg #[.slice B0 X.1.length d0_, .slice B1 X.2.1.length d1_, .slice B2 X.2.2.length d2_]), s11, s12, s13, s14, s15, (.slice B3 cl.length d3_), s17, s18, s19, (.agg #[.string kp, .string wt]), (.agg #[.int .i64 d, .slice B0 X.1.length d0_, .slice B1 X.2.1.length d1_, .slice B2 X.2.2.length d2_, .slice B3 cl.length d3_, .string kp, .string wt]), rfl, ?_⟩
    exact ⟨h.low, fun hL => h.m3 (sl_ hL), fun hL => h.m4 (sl_ hL), fun hL => h.m5 (sl_ hL), fun hL => h.m6 (sl_ hL), fun hL => h.m7 (sl_ hL), fun hL => h.m8 (sl_ hL), fun hL => h.m9 (sl_ hL), fun hL => h.m12 (sl_ hL), fun hL => h.m13 (sl_ hL), fun hL => h.m14 (sl_ hL), fun hL => h.m15 (sl_ hL), fun hL => h.m17 (sl_ hL), fun hL => h.m18 (sl_ hL), fun hL => h.m19 (sl_ hL), fun hL => h.m20 (sl_ hL), fun hL => h.ow (sl_ hL), fun hL => h.ov (sl_ hL), fun hL hM => h.b3 (sl_ hL) (by simpa using hM), fun hL => h.a3 (sl_ hL), fun _ => rfl, fun _ => ⟨by simp [d7], by simp [d13]⟩, fun hL => by have := h.bx (sl_ hL); simp [this], fun hL => h.cz (sl_ hL), fun hL => h.ce (sl_ hL)⟩
  ·obtain rfl := Option.some.inj ho
   have d18 : L 18 = true := hd { on := 18, ground := Go.Ground.data } (by simp) rfl
   have d13 : L 13 = true := hd { on := 13, ground := Go.Ground.chain } (by simp) rfl
   clear hd
   obtain rfl := h.bd d18
   obtain ⟨u7, u13⟩ := h.bw d18
   obtain ⟨⟨B0, d0_, e0_⟩, ⟨B1, d1_, e1_⟩, ⟨B2, d2_, e2_⟩⟩ := And.intro (Kd.R_slice (h.ov u7).1) (And.intro (Kd.R_slice (h.ov u7).2.1) (Kd.R_slice (h.ov u7).2.2))
   obtain ⟨B3, d3_, e3_⟩ := Kd.R_slice (h.a3 u13)
   subst e0_
   subst e1_
   subst e2_
   subst e3_
   have hz := h.cz hL
   have z0 := (blk_cell hz 0).trans rfl
   have z1 := (blk_cell hz 1).trans rfl
   have z2 := (blk_cell hz 2).trans rfl
   have z3 := (blk_cell hz 3).trans rfl
   have z4 := (blk_cell hz 4).trans rfl
   have z5 := (blk_cell hz 5).trans rfl
   have z6 := (blk_cell hz 6).trans rfl
   have zf : ∀ o, w'.frozen? ⟨gc, o, none⟩ = false := fun o => blk_frozen hz o
   refine wpOp_step rfl fun K hK => ?_
   refine skip_ (w1 := ?_) (by rfl) rfl ?_ ?_
   rotate_left
   ·go_simp
    rfl
   refine hK _ _ ⟨s1, (.slice B0 X.1.length d0_), (.slice B1 X.2.1.length d1_), (.slice B2 X.2.2.length d2_), s3, s4, s5, s6, s7, s8, s9, s10, s11, s12, s13, s14, s15, (.slice B3 cl.length d3_), s17, s18, s19, s20, (.agg #[.int .i64 d, .slice B0 X.1.length d0_, .slice B1 X.2.1.length d1_, .slice B2 X.2.2.length d2_, .slice B3 cl.length d3_, .string kp, .string wt]), rfl, ?_⟩
   exact ⟨desk_low h.low GC, fun hL => h.m3 (sl_ hL), fun hL => h.m4 (sl_ hL), fun hL => h.m5 (sl_ hL), fun hL => h.m6 (sl_ hL), fun hL => h.m7 (sl_ hL), fun hL => h.m8 (sl_ hL), fun hL => h.m9 (sl_ hL), fun hL => h.m12 (sl_ hL), fun hL => h.m13 (sl_ hL), fun hL => h.m14 (sl_ hL), fun hL => h.m15 (sl_ hL), fun hL => h.m17 (sl_ hL), fun hL => h.m18 (sl_ hL), fun hL => h.m19 (sl_ hL), fun hL => h.m20 (sl_ hL), fun hL => h.ow (sl_ hL), fun hL => (h.ov (sl_ hL)).imp (fun z => desk_set z rfl (by decide) hz) (And.imp (fun z => desk_set z rfl (by decide) hz) (fun z => desk_set z rfl (by decide) hz)), fun hL hM => desk_set (h.b3 (sl_ hL) (by simpa using hM)) rfl (by decide) hz, fun hL => desk_set (h.a3 (sl_ hL)) rfl (by decide) hz, fun hL => h.bd (sl_ hL), fun hL => (h.bw (sl_ hL)).imp (fun h => by simp [h]) (fun h => by simp [h]), fun _ => by simp [d18], fun hM => absurd hM (by simp), fun _ => desk_blk hz⟩
section
variable {w : World} {gc : Nat} {x0 x1 x2 x3 x4 x5 x6 : Value}
theorem desk_far {g t : Nat} {cs : Array Value} (h : w.heap[g]? = some (.cells cs t (0, 0))) (hne : g ≠ gc) : (((((((w.setCell ⟨gc, 0, none⟩ x0).setCell ⟨gc, 1, none⟩ x1).setCell ⟨gc, 2, none⟩ x2).setCell ⟨gc, 3, none⟩ x3).setCell ⟨gc, 4, none⟩ x4).setCell ⟨gc, 5, none⟩ x5).setCell ⟨gc, 6, none⟩ x6).heap[g]? = some (.cells cs t (0, 0)) := blk_far (p := ⟨gc, 6, none⟩) (blk_far (p := ⟨gc, 5, none⟩) (blk_far (p := ⟨gc, 4, none⟩) (blk_far (p := ⟨gc, 3, none⟩) (blk_far (p := ⟨gc, 2, none⟩) (blk_far (p := ⟨gc, 1, none⟩) (blk_far (p := ⟨gc, 0, none⟩) (h) hne x0) hne x1) hne x2) hne x3) hne x4) hne x5) hne x6
end
def spec_StartAgain.f (k : Nat) (a0_0 : Int) (l0_1 : List (S97)) (l0_2 : List (ByteArray)) (l0_3 : List (S101)) (l0_4 : List (S69)) (a0_5 : ByteArray) (a0_6 : ByteArray) (a1 : Int) : Option (Int × (List (S97)) × List ByteArray × (List (S101)) × (List (S69)) × ByteArray × ByteArray × Int) :=
 if (l0_1.length ≤ 1048576 ∧ l0_2.length ≤ 1048576 ∧ l0_3.length ≤ 1048576) ∧ l0_4.length ≤ 1048576 then (deskOkP k a0_0 (l0_1, l0_2, l0_3) l0_4 a0_5 a0_6).bind fun b => if b = true then (spec_LosePower.f k a0_5 a0_6 a1).bind fun t => (if t.2.2 = 0 then (spec_RecoverLog.f k t.1 t.2.1).bind fun u => some (a0_0, l0_1, l0_2, l0_3, l0_4, u.1, u.2.1, 0) else some (0, [], [], [], [], (⟨#[]⟩ : ByteArray), (⟨#[]⟩ : ByteArray), t.2.2)) else some (0, [], [], [], [], (⟨#[]⟩ : ByteArray), (⟨#[]⟩ : ByteArray), 1) else none
theorem spec_StartAgain.mono : ∀ a0 a1 a2 a3 a4 a5 a6 a7 k, LeO (spec_StartAgain.f k a0 a1 a2 a3 a4 a5 a6 a7) (spec_StartAgain.f (k + 1) a0 a1 a2 a3 a4 a5 a6 a7) := by
 intro a0 a1 a2 a3 a4 a5 a6 a7 k
 unfold spec_StartAgain.f deskOkP
 repeat' first
   | (with_reducible exact spec_l28Whole.mono _ _ _)
   | (with_reducible exact spec_LosePower.mono _ _ _ _)
   | (with_reducible exact spec_RecoverLog.mono _ _ _)
   | (with_reducible exact LeO.refl _)
   | (with_reducible exact LeO.none _)
   | (with_reducible refine LeO.ite ?_ ?_)
   | (with_reducible refine LeO.bind ?_ (fun _ => ?_))
section
variable {w0 w : World} {gc : Nat} {a b x y : Value}
theorem log_blk (hb : w.heap[gc]? = some (.cells #[a, b] 39 (0, 0))) : ((w.setCell ⟨gc, 0, none⟩ x).setCell ⟨gc, 1, none⟩ y).heap[gc]? = some (.cells #[x, y] 39 (0, 0)) := blk_set (blk_set hb 0 x) 1 y
theorem log_low {m : Nat} (h : Below m w0 w) (hg : m ≤ gc) : Below m w0 ((w.setCell ⟨gc, 0, none⟩ x).setCell ⟨gc, 1, none⟩ y) := (h.setCell (p := ⟨gc, 0, none⟩) hg x).setCell (p := ⟨gc, 1, none⟩) hg y
theorem log_far {g t : Nat} {cs : Array Value} (h : w.heap[g]? = some (.cells cs t (0, 0))) (hne : g ≠ gc) : ((w.setCell ⟨gc, 0, none⟩ x).setCell ⟨gc, 1, none⟩ y).heap[g]? = some (.cells cs t (0, 0)) := blk_far (p := ⟨gc, 1, none⟩) (blk_far (p := ⟨gc, 0, none⟩) h hne x) hne y
theorem log_set {α : Type} {k : Kd α} {t base : Nat} {ok : Nat → Prop} {v : Value} {xs : List α} (h : k.R t w base ok v xs) (hE : k.E = []) (he : t ≠ 39) (hb : w.heap[gc]? = some (.cells #[a, b] 39 (0, 0))) : k.R t ((w.setCell ⟨gc, 0, none⟩ x).setCell ⟨gc, 1, none⟩ y) base ok v xs := Kd.R_set (Kd.R_set h hb (fun q hq => eTy hE he hq) 0 x) (blk_set hb 0 x) (fun q hq => eTy hE he hq) 1 y
theorem tail_set {α : Type} {k : Kd α} {t base : Nat} {ok : Nat → Prop} {v : Value} {xs : List α} {cs : Array Value} (h : k.R t w base ok v xs) (hE : k.E = []) (he : t ≠ 41) (hb : w.heap[gc]? = some (.cells cs 41 (0, 0))) : k.R t ((w.setCell ⟨gc, 5, none⟩ x).setCell ⟨gc, 6, none⟩ y) base ok v xs := Kd.R_set (Kd.R_set h hb (fun q hq => eTy hE he hq) 5 x) (blk_set hb 5 x) (fun q hq => eTy hE he hq) 6 y
end
theorem spec_StartAgain.calls (k : Nat) (a0_0 : Int) (A0_1 : Option Addr) (c0_1 : Nat) (l0_1 : List (S97)) (A0_2 : Option Addr) (c0_2 : Nat) (l0_2 : List (ByteArray)) (A0_3 : Option Addr) (c0_3 : Nat) (l0_3 : List (S101)) (A0_4 : Option Addr) (c0_4 : Nat) (l0_4 : List (S69)) (a0_5 : ByteArray) (a0_6 : ByteArray) (a1 : Int) (r1 : Int) (r2 : List (S97)) (r3 : List ByteArray) (r4 : List (S101)) (r5 : List (S69)) (r6 : ByteArray) (r7 : ByteArray) (r8 : Int) (w : World) (hr0_1 : Kd.C k97 w A0_1 l0_1.length l0_1) (hc0_1 : l0_1.length ≤ c0_1) (hr0_2 : Kd.C Kd.string w A0_2 l0_2.length l0_2) (hc0_2 : l0_2.length ≤ c0_2) (hr0_3 : Kd.C k101 w A0_3 l0_3.length l0_3) (hc0_3 : l0_3.length ≤ c0_3) (hr0_4 : Kd.C k69 w A0_4 l0_4.length l0_4) (hc0_4 : l0_4.length ≤ c0_4) (h : spec_StartAgain.f k a0_0 l0_1 l0_2 l0_3 l0_4 a0_5 a0_6 a1 = some (r1, r2, r3, r4, r5, r6, r7, r8)) :
  Calls Tryz.prog 13 #[.agg #[.int .i64 a0_0, .slice A0_1 l0_1.length c0_1, .slice A0_2 l0_2.length c0_2, .slice A0_3 l0_3.length c0_3, .slice A0_4 l0_4.length c0_4, .string a0_5, .string a0_6], .int .i64 a1] w fun e w' => ∃ v1_ v2_ v3_ v4_ : Value, e = .returned (.tuple #[.agg #[.int .i64 r1, v1_, v2_, v3_, v4_, .string r6, .string r7], .int .i64 r8]) ∧ Kd.R k97 97 w' w.heap.size (fun _ => True) v1_ r2 ∧ Kd.R Kd.string 9 w' w.heap.size (fun _ => True) v2_ r3 ∧ Kd.R k101 101 w' w.heap.size (fun _ => True) v3_ r4 ∧ Kd.R k69 69 w' w.heap.size (fun _ => True) v4_ r5 ∧ Below w.heap.size w w' := by
 unfold spec_StartAgain.f at h
 split at h
 case isFalse => cases h
 rename_i hlen
 obtain ⟨b, hu, h⟩ := Option.bind_eq_some_iff.mp h
 have I1 : Aside0 (∀ W g, Below w.heap.size w W → W.heap[g]? = some (.cells #[.int .i64 a0_0, .slice A0_1 l0_1.length c0_1, .slice A0_2 l0_2.length c0_2, .slice A0_3 l0_3.length c0_3, .slice A0_4 l0_4.length c0_4, .string a0_5, .string a0_6] 41 (0, 0)) → Calls Tryz.prog 20 #[.pointer (some ⟨g, 0, none⟩)] W fun e w' => e = .returned (.bool b) ∧ Below W.heap.size W w') := ⟨fun W g hb hk => l28Ok_at k g a0_0 A0_1 A0_2 A0_3 A0_4 c0_1 c0_2 c0_3 c0_4 (l0_1, l0_2, l0_3) l0_4 a0_5 a0_6 b W hlen.1.2.2 ((blk_cell hk 0).trans rfl) ((blk_cell hk 1).trans rfl) ((blk_cell hk 2).trans rfl) ((blk_cell hk 3).trans rfl) ((blk_cell hk 4).trans rfl) ((blk_cell hk 5).trans rfl) ((blk_cell hk 6).trans rfl) (Kd.C_below hr0_1 hb) (Kd.C_below hr0_2 hb) (Kd.C_below hr0_3 hb) (Kd.C_below hr0_4 hb) hu⟩
 have I3 : Aside0 (∀ W g, Below w.heap.size w W → W.heap[g]? = some (.cells #[.int .i64 a0_0, .slice A0_1 l0_1.length c0_1, .slice A0_2 l0_2.length c0_2, .slice A0_3 l0_3.length c0_3, .slice A0_4 l0_4.length c0_4, .string a0_5, .string a0_6] 41 (0, 0)) → Calls Tryz.prog 39 #[.pointer (some ⟨g, 0, none⟩)] W fun e w' => ∃ v0 v1 v2 v3 : Value, e = .returned (.agg #[.int .i64 a0_0, v0, v1, v2, v3, .string a0_5, .string a0_6]) ∧ Kd.R k97 97 w' W.heap.size (fun _ => True) v0 l0_1 ∧ Kd.R Kd.string 9 w' W.heap.size (fun _ => True) v1 l0_2 ∧ Kd.R k101 101 w' W.heap.size (fun _ => True) v2 l0_3 ∧ Kd.R k69 69 w' W.heap.size (fun _ => True) v3 l0_4 ∧ Below W.heap.size W w') := ⟨fun W g hb hk => l28Own_at g a0_0 A0_1 A0_2 A0_3 A0_4 c0_1 c0_2 c0_3 c0_4 (l0_1, l0_2, l0_3) l0_4 a0_5 a0_6 W ((blk_cell hk 0).trans rfl) ((blk_cell hk 1).trans rfl) ((blk_cell hk 2).trans rfl) ((blk_cell hk 3).trans rfl) ((blk_cell hk 4).trans rfl) ((blk_cell hk 5).trans rfl) ((blk_cell hk 6).trans rfl) (Kd.C_below hr0_1 hb) (Kd.C_below hr0_2 hb) (Kd.C_below hr0_3 hb) (Kd.C_below hr0_4 hb) hlen⟩
 clear hu hr0_1 hr0_2 hr0_3 hr0_4 hlen
 have hud := Tryz.underlying41
 have hul := Tryz.underlying39
 cases b with
 | false =>
  rw [if_neg (by simp)] at h
  simp only [Option.some.injEq, Prod.mk.injEq] at h
  obtain ⟨rfl, rfl, rfl, rfl, rfl, rfl, rfl, rfl⟩ := h
  go_enter Tryz.func13, Tryz.ntmps13
  go_wp2_with (first | ((with_reducible refine gd_ 2 rfl ?_); refine be_ 2 #[.int .i64 a0_0, .slice A0_1 l0_1.length c0_1, .slice A0_2 l0_2.length c0_2, .slice A0_3 l0_3.length c0_3, .slice A0_4 l0_4.length c0_4, .string a0_5, .string a0_6] 41 ?_; intro g hg_ w1 hbox hb; have K1 := Aside0.mk hbox; have H1 := Aside0.mk hb; have G_g := Aside0.mk (Nat.le_of_eq hg_.symm); clear hg_ hb hbox) | ((with_reducible refine gd_ 4 rfl ?_); refine be_ 4 #[.int .i64 0, .slice none 0 0, .slice none 0 0, .slice none 0 0, .slice none 0 0, .string (⟨#[]⟩ : ByteArray), .string (⟨#[]⟩ : ByteArray)] 41 ?_; intro gr hg_ w2 hbox hb; have K2 := Aside0.mk (blk_below K1.out hb); have R2 := Aside0.mk hbox; have H2 := Aside0.mk (below_step H1.out hb); have G_gr := Aside0.mk (Nat.le_of_eq hg_.symm); clear hg_ hb hbox) | (go_at_call 20; (with_reducible refine (I1.out _ _ H2.out K2.out).mono ?_); rintro e w3 ⟨rfl, hb⟩; have K3 := Aside0.mk (blk_below K2.out hb); have R3 := Aside0.mk (blk_below R2.out hb); have H3 := Aside0.mk (below_step H2.out hb); clear hb; have z0 := (blk_cell R3.out 0).trans rfl; have z1 := (blk_cell R3.out 1).trans rfl; have z2 := (blk_cell R3.out 2).trans rfl; have z3 := (blk_cell R3.out 3).trans rfl; have z4 := (blk_cell R3.out 4).trans rfl; have z5 := (blk_cell R3.out 5).trans rfl; have z6 := (blk_cell R3.out 6).trans rfl; have zf : ∀ o, w3.frozen? ⟨gr, o, none⟩ = false := fun o => blk_frozen R3.out o) | fail)
  refine bodyPost_ret (results_ct rfl _ _ gr 41 #[.int .i64 0, .slice none 0 0, .slice none 0 0, .slice none 0 0, .slice none 0 0, .string (⟨#[]⟩ : ByteArray), .string (⟨#[]⟩ : ByteArray)] (0, 0) _ rfl (desk_blk R3.out) Tryz.underlying41 rfl (by kernel_rfl)) rfl ?_
  exact ⟨_, _, _, _, rfl, Kd.R_nil _ _ _ _ _, Kd.R_nil _ _ _ _ _, Kd.R_nil _ _ _ _ _, Kd.R_nil _ _ _ _ _, desk_low H3.out (Nat.le_trans (below_size H1.out) G_gr.out)⟩
 | true =>
  rw [if_pos rfl] at h
  obtain ⟨⟨l0, l1, co⟩, hv, h⟩ := Option.bind_eq_some_iff.mp h
  have I2 := Aside0.mk (fun W => spec_LosePower.calls k a0_5 a0_6 a1 l0 l1 co W hv)
  clear hv
  simp only at h
  go_enter Tryz.func13, Tryz.ntmps13
  go_upto_region 4 with (first | ((with_reducible refine gd_ 2 rfl ?_); refine be_ 2 #[.int .i64 a0_0, .slice A0_1 l0_1.length c0_1, .slice A0_2 l0_2.length c0_2, .slice A0_3 l0_3.length c0_3, .slice A0_4 l0_4.length c0_4, .string a0_5, .string a0_6] 41 ?_; intro g hg_ w1 hbox hb; have K1 := Aside0.mk hbox; have H1 := Aside0.mk hb; have G_g := Aside0.mk (Nat.le_of_eq hg_.symm); clear hg_ hb hbox) | ((with_reducible refine gd_ 4 rfl ?_); refine be_ 4 #[.int .i64 0, .slice none 0 0, .slice none 0 0, .slice none 0 0, .slice none 0 0, .string (⟨#[]⟩ : ByteArray), .string (⟨#[]⟩ : ByteArray)] 41 ?_; intro gr hg_ w2 hbox hb; have K2 := Aside0.mk (blk_below K1.out hb); have R2 := Aside0.mk hbox; have H2 := Aside0.mk (below_step H1.out hb); have G_gr := Aside0.mk (Nat.le_of_eq hg_.symm); clear hg_ hb hbox) | (go_at_call 20; (with_reducible refine (I1.out _ _ H2.out K2.out).mono ?_); rintro e w3 ⟨rfl, hb⟩; have K3 := Aside0.mk (blk_below K2.out hb); have R3 := Aside0.mk (blk_below R2.out hb); have H3 := Aside0.mk (below_step H2.out hb); clear hb; have z0 := (blk_cell R3.out 0).trans rfl; have z1 := (blk_cell R3.out 1).trans rfl; have z2 := (blk_cell R3.out 2).trans rfl; have z3 := (blk_cell R3.out 3).trans rfl; have z4 := (blk_cell R3.out 4).trans rfl; have z5 := (blk_cell R3.out 5).trans rfl; have z6 := (blk_cell R3.out 6).trans rfl; have zf : ∀ o, w3.frozen? ⟨gr, o, none⟩ = false := fun o => blk_frozen R3.out o; have y0 := (blk_cell K3.out 0).trans rfl; have y1 := (blk_cell K3.out 1).trans rfl; have y2 := (blk_cell K3.out 2).trans rfl; have y3 := (blk_cell K3.out 3).trans rfl; have y4 := (blk_cell K3.out 4).trans rfl; have y5 := (blk_cell K3.out 5).trans rfl; have y6 := (blk_cell K3.out 6).trans rfl; have yf : ∀ o, w3.frozen? ⟨g, o, none⟩ = false := fun o => blk_frozen K3.out o) | (go_at_call 38; (with_reducible refine (I2.out _).mono ?_); rintro e w4 ⟨rfl, hb⟩; have K4 := Aside0.mk (blk_below K3.out hb); have R4 := Aside0.mk (blk_below R3.out hb); have H4 := Aside0.mk (below_step H3.out hb); clear hb) | ((with_reducible refine gd_ 6 rfl ?_); refine be_ 6 #[.string (⟨#[]⟩ : ByteArray), .string (⟨#[]⟩ : ByteArray)] 39 ?_; intro gl hg_ w5 hbox hb; have K5 := Aside0.mk (blk_below K4.out hb); have R5 := Aside0.mk (blk_below R4.out hb); have L5 := Aside0.mk hbox; have H5 := Aside0.mk (below_step H4.out hb); have NR := Aside0.mk (show gr ≠ gl from fun e => by have h1 := blk_lt R4.out; have h2 := Nat.le_of_eq hg_.symm; omega); have NK := Aside0.mk (show g ≠ gl from fun e => by have h1 := blk_lt K4.out; have h2 := Nat.le_of_eq hg_.symm; omega); have x0 := (blk_cell L5.out 0).trans rfl; have x1 := (blk_cell L5.out 1).trans rfl; have xf : ∀ o, w5.frozen? ⟨gl, o, none⟩ = false := fun o => blk_frozen L5.out o; have G_gl := Aside0.mk (Nat.le_of_eq hg_.symm); clear hg_ hb hbox) | fail)
  have K6 := Aside0.mk (log_far (x := .string l0) (y := .string l1) K5.out NK.out)
  have R6 := Aside0.mk (log_far (x := .string l0) (y := .string l1) R5.out NR.out)
  have L6 := Aside0.mk (log_blk (x := .string l0) (y := .string l1) L5.out)
  have H6 := Aside0.mk (log_low (x := .string l0) (y := .string l1) H5.out (Nat.le_trans (below_size H4.out) G_gl.out))
  clear x0 x1 xf z0 z1 z2 z3 z4 z5 z6 zf y0 y1 y2 y3 y4 y5 y6 yf
  generalize ((w5.setCell ⟨gl, 0, none⟩ (.string l0)).setCell ⟨gl, 1, none⟩ (.string l1)) = w6 at *
  by_cases hco : co = 0
  ·subst hco
   rw [if_pos rfl] at h
   obtain ⟨⟨u0, u1, u2, u3⟩, hw, h⟩ := Option.bind_eq_some_iff.mp h
   have I4 := Aside0.mk (fun W => spec_RecoverLog.calls k l0 l1 u0 u1 u2 u3 W hw)
   clear hw
   simp only [Option.some.injEq, Prod.mk.injEq] at h
   obtain ⟨rfl, rfl, rfl, rfl, rfl, rfl, rfl, rfl⟩ := h
   go_upto_region 7 with (first | (go_at_call 39; (with_reducible refine (I3.out _ _ H6.out K6.out).mono ?_); rintro e w7 ⟨v0, v1, v2, v3, rfl, t0, t1, t2, t3, hb⟩; obtain ⟨B0, d0_, e0_⟩ := Kd.R_slice t0; obtain ⟨B1, d1_, e1_⟩ := Kd.R_slice t1; obtain ⟨B2, d2_, e2_⟩ := Kd.R_slice t2; obtain ⟨B3, d3_, e3_⟩ := Kd.R_slice t3; subst e0_; subst e1_; subst e2_; subst e3_; have T7 := Aside0.mk (And.intro (Kd.R_lower t0 (below_size H6.out)) (And.intro (Kd.R_lower t1 (below_size H6.out)) (And.intro (Kd.R_lower t2 (below_size H6.out)) (Kd.R_lower t3 (below_size H6.out))))); have R7 := Aside0.mk (blk_below R6.out hb); have L7 := Aside0.mk (blk_below L6.out hb); have H7 := Aside0.mk (below_step H6.out hb); clear hb t0 t1 t2 t3) | ((with_reducible refine gd_ 8 rfl ?_); refine be_ 8 #[.int .i64 0, .slice none 0 0, .slice none 0 0, .slice none 0 0, .slice none 0 0, .string (⟨#[]⟩ : ByteArray), .string (⟨#[]⟩ : ByteArray)] 41 ?_; intro g8 hg_ w8 hbox hb; have R8 := Aside0.mk (blk_below R7.out hb); have L8 := Aside0.mk (blk_below L7.out hb); have D8 := Aside0.mk hbox; have H8 := Aside0.mk (below_step H7.out hb); have T8 := Aside0.mk (And.intro (Kd.R_below T7.out.1 hb) (And.intro (Kd.R_below T7.out.2.1 hb) (And.intro (Kd.R_below T7.out.2.2.1 hb) (Kd.R_below T7.out.2.2.2 hb)))); have NR8 := Aside0.mk (show gr ≠ g8 from fun e => by have h1 := blk_lt R7.out; have h2 := Nat.le_of_eq hg_.symm; omega); have NL8 := Aside0.mk (show gl ≠ g8 from fun e => by have h1 := blk_lt L7.out; have h2 := Nat.le_of_eq hg_.symm; omega); have x0 := (blk_cell D8.out 0).trans rfl; have x1 := (blk_cell D8.out 1).trans rfl; have x2 := (blk_cell D8.out 2).trans rfl; have x3 := (blk_cell D8.out 3).trans rfl; have x4 := (blk_cell D8.out 4).trans rfl; have x5 := (blk_cell D8.out 5).trans rfl; have x6 := (blk_cell D8.out 6).trans rfl; have xf : ∀ o, w8.frozen? ⟨g8, o, none⟩ = false := fun o => blk_frozen D8.out o; have G_g8 := Aside0.mk (Nat.le_of_eq hg_.symm); clear hg_ hb hbox) | fail)
   have T9 := Aside0.mk (And.intro (desk_set (x0 := .int .i64 a0_0) (x1 := .slice B0 l0_1.length d0_) (x2 := .slice B1 l0_2.length d1_) (x3 := .slice B2 l0_3.length d2_) (x4 := .slice B3 l0_4.length d3_) (x5 := .string a0_5) (x6 := .string a0_6) T8.out.1 rfl (by decide) D8.out) (And.intro (desk_set (x0 := .int .i64 a0_0) (x1 := .slice B0 l0_1.length d0_) (x2 := .slice B1 l0_2.length d1_) (x3 := .slice B2 l0_3.length d2_) (x4 := .slice B3 l0_4.length d3_) (x5 := .string a0_5) (x6 := .string a0_6) T8.out.2.1 rfl (by decide) D8.out) (And.intro (desk_set (x0 := .int .i64 a0_0) (x1 := .slice B0 l0_1.length d0_) (x2 := .slice B1 l0_2.length d1_) (x3 := .slice B2 l0_3.length d2_) (x4 := .slice B3 l0_4.length d3_) (x5 := .string a0_5) (x6 := .string a0_6) T8.out.2.2.1 rfl (by decide) D8.out) (desk_set (x0 := .int .i64 a0_0) (x1 := .slice B0 l0_1.length d0_) (x2 := .slice B1 l0_2.length d1_) (x3 := .slice B2 l0_3.length d2_) (x4 := .slice B3 l0_4.length d3_) (x5 := .string a0_5) (x6 := .string a0_6) T8.out.2.2.2 rfl (by decide) D8.out))))
   have D9 := Aside0.mk (desk_blk (x0 := .int .i64 a0_0) (x1 := .slice B0 l0_1.length d0_) (x2 := .slice B1 l0_2.length d1_) (x3 := .slice B2 l0_3.length d2_) (x4 := .slice B3 l0_4.length d3_) (x5 := .string a0_5) (x6 := .string a0_6) D8.out)
   have H9 := Aside0.mk (desk_low (x0 := .int .i64 a0_0) (x1 := .slice B0 l0_1.length d0_) (x2 := .slice B1 l0_2.length d1_) (x3 := .slice B2 l0_3.length d2_) (x4 := .slice B3 l0_4.length d3_) (x5 := .string a0_5) (x6 := .string a0_6) H8.out (Nat.le_trans (below_size H7.out) G_g8.out))
   have R9 := Aside0.mk (desk_far (x0 := .int .i64 a0_0) (x1 := .slice B0 l0_1.length d0_) (x2 := .slice B1 l0_2.length d1_) (x3 := .slice B2 l0_3.length d2_) (x4 := .slice B3 l0_4.length d3_) (x5 := .string a0_5) (x6 := .string a0_6) R8.out NR8.out)
   have L9 := Aside0.mk (desk_far (x0 := .int .i64 a0_0) (x1 := .slice B0 l0_1.length d0_) (x2 := .slice B1 l0_2.length d1_) (x3 := .slice B2 l0_3.length d2_) (x4 := .slice B3 l0_4.length d3_) (x5 := .string a0_5) (x6 := .string a0_6) L8.out NL8.out)
   clear x0 x1 x2 x3 x4 x5 x6 xf
   generalize (((((((w8.setCell ⟨g8, 0, none⟩ (.int .i64 a0_0)).setCell ⟨g8, 1, none⟩ (.slice B0 l0_1.length d0_)).setCell ⟨g8, 2, none⟩ (.slice B1 l0_2.length d1_)).setCell ⟨g8, 3, none⟩ (.slice B2 l0_3.length d2_)).setCell ⟨g8, 4, none⟩ (.slice B3 l0_4.length d3_)).setCell ⟨g8, 5, none⟩ (.string a0_5)).setCell ⟨g8, 6, none⟩ (.string a0_6)) = w9 at *
   have q0 := (blk_cell L9.out 0).trans rfl
   have q1 := (blk_cell L9.out 1).trans rfl
   go_upto_region 8 with (first | (go_at_call 40; (with_reducible refine (I4.out _).mono ?_); rintro e w10 ⟨rfl, hb⟩; have R10 := Aside0.mk (blk_below R9.out hb); have L10 := Aside0.mk (blk_below L9.out hb); have D10 := Aside0.mk (blk_below D9.out hb); have H10 := Aside0.mk (below_step H9.out hb); have T10 := Aside0.mk (And.intro (Kd.R_below T9.out.1 hb) (And.intro (Kd.R_below T9.out.2.1 hb) (And.intro (Kd.R_below T9.out.2.2.1 hb) (Kd.R_below T9.out.2.2.2 hb)))); clear hb; have p0 := (blk_cell L10.out 0).trans rfl; have p1 := (blk_cell L10.out 1).trans rfl; have pf : ∀ o, w10.frozen? ⟨gl, o, none⟩ = false := fun o => blk_frozen L10.out o) | fail)
   have L11 := Aside0.mk (log_blk (x := .string u0) (y := .string u1) L10.out)
   have R11 := Aside0.mk (log_far (x := .string u0) (y := .string u1) R10.out NR.out)
   have D11 := Aside0.mk (log_far (x := .string u0) (y := .string u1) D10.out (Ne.symm NL8.out))
   have H11 := Aside0.mk (log_low (x := .string u0) (y := .string u1) H10.out (Nat.le_trans (below_size H4.out) G_gl.out))
   have T11 := Aside0.mk (And.intro (log_set (x := .string u0) (y := .string u1) T10.out.1 rfl (by decide) L10.out) (And.intro (log_set (x := .string u0) (y := .string u1) T10.out.2.1 rfl (by decide) L10.out) (And.intro (log_set (x := .string u0) (y := .string u1) T10.out.2.2.1 rfl (by decide) L10.out) (log_set (x := .string u0) (y := .string u1) T10.out.2.2.2 rfl (by decide) L10.out))))
   clear p0 p1 pf q0 q1
   generalize ((w10.setCell ⟨gl, 0, none⟩ (.string u0)).setCell ⟨gl, 1, none⟩ (.string u1)) = w11 at *
   have q0 := (blk_cell L11.out 0).trans rfl
   have q1 := (blk_cell L11.out 1).trans rfl
   have y0 := (blk_cell D11.out 0).trans rfl
   have y1 := (blk_cell D11.out 1).trans rfl
   have y2 := (blk_cell D11.out 2).trans rfl
   have y3 := (blk_cell D11.out 3).trans rfl
   have y4 := (blk_cell D11.out 4).trans rfl
   have y5 := (blk_cell D11.out 5).trans rfl
   have y6 := (blk_cell D11.out 6).trans rfl
   have yf : ∀ o, w11.frozen? ⟨g8, o, none⟩ = false := fun o => blk_frozen D11.out o
   go_upto_region 9 with (fail)
   have D12 : Aside0 (((w11.setCell ⟨g8, 5, none⟩ (.string u0)).setCell ⟨g8, 6, none⟩ (.string u1)).heap[g8]? = some (.cells #[.int .i64 a0_0, .slice B0 l0_1.length d0_, .slice B1 l0_2.length d1_, .slice B2 l0_3.length d2_, .slice B3 l0_4.length d3_, .string u0, .string u1] 41 (0, 0))) := ⟨blk_set (blk_set D11.out 5 (.string u0)) 6 (.string u1)⟩
   have R12 := Aside0.mk (blk_far (p := ⟨g8, 6, none⟩) (blk_far (p := ⟨g8, 5, none⟩) R11.out NR8.out (.string u0)) NR8.out (.string u1))
   have H12 := Aside0.mk ((H11.out.setCell (p := ⟨g8, 5, none⟩) (Nat.le_trans (below_size H7.out) G_g8.out) (.string u0)).setCell (p := ⟨g8, 6, none⟩) (Nat.le_trans (below_size H7.out) G_g8.out) (.string u1))
   have T12 := Aside0.mk (And.intro (tail_set (x := .string u0) (y := .string u1) T11.out.1 rfl (by decide) D11.out) (And.intro (tail_set (x := .string u0) (y := .string u1) T11.out.2.1 rfl (by decide) D11.out) (And.intro (tail_set (x := .string u0) (y := .string u1) T11.out.2.2.1 rfl (by decide) D11.out) (tail_set (x := .string u0) (y := .string u1) T11.out.2.2.2 rfl (by decide) D11.out))))
   clear q0 q1 y0 y1 y2 y3 y4 y5 y6 yf
   generalize ((w11.setCell ⟨g8, 5, none⟩ (.string u0)).setCell ⟨g8, 6, none⟩ (.string u1)) = w12 at *
   have y0 := (blk_cell D12.out 0).trans rfl
   have y1 := (blk_cell D12.out 1).trans rfl
   have y2 := (blk_cell D12.out 2).trans rfl
   have y3 := (blk_cell D12.out 3).trans rfl
   have y4 := (blk_cell D12.out 4).trans rfl
   have y5 := (blk_cell D12.out 5).trans rfl
   have y6 := (blk_cell D12.out 6).trans rfl
   have yf : ∀ o, w12.frozen? ⟨g8, o, none⟩ = false := fun o => blk_frozen D12.out o
   have z0 := (blk_cell R12.out 0).trans rfl
   have z1 := (blk_cell R12.out 1).trans rfl
   have z2 := (blk_cell R12.out 2).trans rfl
   have z3 := (blk_cell R12.out 3).trans rfl
   have z4 := (blk_cell R12.out 4).trans rfl
   have z5 := (blk_cell R12.out 5).trans rfl
   have z6 := (blk_cell R12.out 6).trans rfl
   have zf : ∀ o, w12.frozen? ⟨gr, o, none⟩ = false := fun o => blk_frozen R12.out o
   go_wp2
   refine bodyPost_ret (results_ct rfl _ _ gr 41 #[.int .i64 a0_0, .slice B0 l0_1.length d0_, .slice B1 l0_2.length d1_, .slice B2 l0_3.length d2_, .slice B3 l0_4.length d3_, .string u0, .string u1] (0, 0) _ rfl (desk_blk R12.out) Tryz.underlying41 rfl (by kernel_rfl)) rfl ?_
   exact ⟨_, _, _, _, rfl, desk_set T12.out.1 rfl (by decide) R12.out, desk_set T12.out.2.1 rfl (by decide) R12.out, desk_set T12.out.2.2.1 rfl (by decide) R12.out, desk_set T12.out.2.2.2 rfl (by decide) R12.out, desk_low H12.out (Nat.le_trans (below_size H1.out) G_gr.out)⟩
  ·rw [if_neg hco] at h
   simp only [Option.some.injEq, Prod.mk.injEq] at h
   obtain ⟨rfl, rfl, rfl, rfl, rfl, rfl, rfl, rfl⟩ := h
   have c1 : (co == 0) = false := by simpa using hco
   have c2 : (co != 0) = true := by simpa using hco
   have z0 := (blk_cell R6.out 0).trans rfl
   have z1 := (blk_cell R6.out 1).trans rfl
   have z2 := (blk_cell R6.out 2).trans rfl
   have z3 := (blk_cell R6.out 3).trans rfl
   have z4 := (blk_cell R6.out 4).trans rfl
   have z5 := (blk_cell R6.out 5).trans rfl
   have z6 := (blk_cell R6.out 6).trans rfl
   have zf : ∀ o, w6.frozen? ⟨gr, o, none⟩ = false := fun o => blk_frozen R6.out o
   go_wp2
   refine bodyPost_ret (results_ct rfl _ _ gr 41 #[.int .i64 0, .slice none 0 0, .slice none 0 0, .slice none 0 0, .slice none 0 0, .string (⟨#[]⟩ : ByteArray), .string (⟨#[]⟩ : ByteArray)] (0, 0) _ rfl (desk_blk R6.out) Tryz.underlying41 rfl (by kernel_rfl)) rfl ?_
   exact ⟨_, _, _, _, rfl, Kd.R_nil _ _ _ _ _, Kd.R_nil _ _ _ _ _, Kd.R_nil _ _ _ _ _, Kd.R_nil _ _ _ _ _, desk_low H6.out (Nat.le_trans (below_size H1.out) G_gr.out)⟩
end
end Go.Proofs.YtkoeeajciciphaaGreatDoor.QFnExactStartAgain
