/- Functions and contracts of one law, printed by this session's own program (contracts by hand among them). -/
import Derived.Test.YtedidhfmknhlkaaQFnLoftDaysx0
import Derived.Test.YtedidhfmknhlkaaQFnLoftDaysx1
import Derived.Test.YtedidhfmknhlkaaQFnLoftDaysx2
namespace Go.Proofs.Ytedidhfmknhlkaa.QFnLoftDays
open Go.RowKit Go.Proofs.YtedidhfmknhlkaaW.PrintWords Go.Proofs.YtedidhfmknhlkaaW.PrintLast Go.Proofs.YtedidhfmknhlkaaW.PrintMore
attribute [local go_sem] max2_int min2_int max_two min_two max_three min_three max_four min_four   -- for this text's walks alone
set_option linter.unusedVariables false
set_option linter.unusedSimpArgs false

/-! ### impl_workOrder: function 55, by hand -/
section
open Go.Proofs.Ytedidhfmknhlkaa.Base
theorem isNaN_calls (x : Int) (w : World) : Calls Try.prog 79 #[.int .i64 x] w fun e w' => e = .returned (.bool false) ∧ w' = w := by
 go_enter Try.func79, Try.ntmps79
 go_wp2
 go_ret
 exact ⟨by simp, rfl⟩
def cmpI (x y : Int) : Int := if x < y then -1 else if y < x then 1 else 0
theorem Cmp_calls (x y : Int) (w : World) : Calls Try.prog 67 #[.int .i64 x, .int .i64 y] w fun e w' => e = .returned (.int .i64 (cmpI x y)) ∧ w' = w := by
 have I := Aside0.mk isNaN_calls
 by_cases h : x < y
 ·have hc : cmpI x y = -1 := by unfold cmpI; rw [if_pos h]
  rw [hc]
  have h1 : decide (x < y) = true := decide_eq_true h
  clear hc h
  go_enter Try.func67, Try.ntmps67
  go_wp2_with (go_at_call 79; (with_reducible refine (I.out _ _).mono ?_); rintro e w' ⟨rfl, rfl⟩)
  go_ret
  exact ⟨rfl, rfl⟩
 ·by_cases h2 : y < x
  ·have hc : cmpI x y = 1 := by unfold cmpI; rw [if_neg h, if_pos h2]
   rw [hc]
   have h1 : decide (x < y) = false := decide_eq_false h
   have h3 : decide (y < x) = true := decide_eq_true h2
   clear hc h h2
   go_enter Try.func67, Try.ntmps67
   go_wp2_with (go_at_call 79; (with_reducible refine (I.out _ _).mono ?_); rintro e w' ⟨rfl, rfl⟩)
   go_ret
   exact ⟨rfl, rfl⟩
  ·have hc : cmpI x y = 0 := by unfold cmpI; rw [if_neg h, if_neg h2]
   rw [hc]
   have h1 : decide (x < y) = false := decide_eq_false h
   have h3 : decide (y < x) = false := decide_eq_false h2
   clear hc h h2
   go_enter Try.func67, Try.ntmps67
   go_wp2_with (go_at_call 79; (with_reducible refine (I.out _ _).mono ?_); rintro e w' ⟨rfl, rfl⟩)
   go_ret
   exact ⟨rfl, rfl⟩
set_option maxHeartbeats 8000000 in
set_option maxRecDepth 100000 in
theorem orderCmp (l0 : List S49) (A0 : Option Addr) (c0 : Nat) (B : Nat) (a b : Nat) (w : World) (hr0 : Kd.C k49 w A0 l0.length l0) (hB : w.cell? ⟨B, 0, none⟩ = some (.slice A0 l0.length c0)) (ha : a < l0.length) (hb : b < l0.length) :
  Calls Try.prog 73 #[.int .i64 a, .int .i64 b, .pointer (some ⟨B, 0, none⟩)] w fun e w' => e = .returned (.int .i64 (cmpI (rd_T49 l0 a).f4 (rd_T49 l0 b).f4)) ∧ ∃ q, w' = w.drewN q := by
 obtain ⟨ad, rfl, _, _, _, _, c4⟩ := at_T49 hr0 (a : Int) (by omega) (by omega)
 obtain ⟨ad2, e2, _, _, _, _, d4⟩ := at_T49 hr0 (b : Int) (by omega) (by omega)
 cases e2
 rw [Int.toNat_natCast] at c4 d4
 have I : Aside0 (∀ (W : World), Calls Try.prog 67 #[.int .i64 (rd_T49 l0 a).f4, .int .i64 (rd_T49 l0 b).f4] W fun e w' => e = .returned (.int .i64 (cmpI (rd_T49 l0 a).f4 (rd_T49 l0 b).f4)) ∧ w' = W) := ⟨fun W => Cmp_calls _ _ W⟩
 clear hr0
 generalize cmpI (rd_T49 l0 a).f4 (rd_T49 l0 b).f4 = r at I ⊢
 generalize (rd_T49 l0 a).f4 = x at I c4
 generalize (rd_T49 l0 b).f4 = y at I d4
 go_enter Try.func73, Try.ntmps73
 go_wp2
 go_quiet ((go_at_call 67; with_reducible exact Calls.quiet_of_same (I.out _)))
 go_wp2
 go_ret
 exact ⟨rfl, _, rfl⟩
open Go.Shelf Go.Sort
def insL_ren : Go.Shelf.Ren := ⟨fun | 20 => 96 | n => n, fun | 24 => 3 | 22 => 63 | 3 => 3 | 25 => 79 | 4 => 4 | 0 => 0 | n => n, fun | n => n⟩
theorem insL : Go.Proofs.SlLaysF.n20 Try.prog insL_ren := {
 mixed := by kernel_rfl
 f20 := ⟨Try.f96.name, by decide, Try.func96.trans (congrArg some (by kernel_rfl))⟩
 t0 := Try.underlying0
 a0 := Try.isAgg0
 z0 := Try.sizeOf0
 v0 := Try.zeroValue0
 t3 := Try.underlying3
 a3 := Try.isAgg3
 z3 := Try.sizeOf3
 v3 := Try.zeroValue3
 t4 := Try.underlying4
 a4 := Try.isAgg4
 z4 := Try.sizeOf4
 v4 := Try.zeroValue4
 t22 := Try.underlying63
 a22 := Try.isAgg63
 z22 := Try.sizeOf63
 v22 := Try.zeroValue63
 a24 := Try.isAgg3
 z24 := Try.sizeOf3
 t25 := Try.underlying79
 a25 := Try.isAgg79
 z25 := Try.sizeOf79
 v25 := Try.zeroValue79 }

theorem heap_sortWorld {α : Type} [Inhabited α] (enc : α → Value) (w : World) (blk off m : Nat) (dk : Array α) (os : Array Obj) (k : Nat) (hk : k ≠ blk) (hlt : k < w.heap.size) : (sortWorld enc w blk off m dk os).heap[k]? = w.heap[k]? := by
 unfold sortWorld grow putRow mapBlock Sort.ahead
 show (w.heap.modify blk _ ++ os)[k]? = _
 rw [Array.getElem?_append, if_pos (by simpa using hlt), Array.getElem?_modify, if_neg (Ne.symm hk)]
theorem below_sortWorld {α : Type} [Inhabited α] (enc : α → Value) {w0 w : World} (blk off m : Nat) (dk : Array α) (os : Array Obj) (hB : Below w0.heap.size w0 w) (hblk : w0.heap.size ≤ blk) : Below w0.heap.size w0 (sortWorld enc w blk off m dk os) := by
 have hs := hB.size
 refine ⟨hB.os, hB.tape, hB.output, ?_, fun k hk => ?_⟩
 ·show w0.heap.size ≤ (w.heap.modify blk _ ++ os).size
  simp
  omega
 ·exact (heap_sortWorld enc w blk off m dk os k (by omega) (by omega)).trans (hB.block k hk)
def idxEnc {n : Nat} (i : Fin n) : Value := .int .i64 (i.val : Int)
def idxCmp (l0 : List S49) (a b : Fin l0.length) : Int := cmpI (rd_T49 l0 a.val).f4 (rd_T49 l0 b.val).f4
theorem orderReads (l0 : List S49) [Inhabited (Fin l0.length)] (A0 : Option Addr) (c0 : Nat) (B blk : Nat) (w0 w : World) (hr0 : Kd.C k49 w0 A0 l0.length l0) (hb : Below w0.heap.size w0 w) (hB : w.cell? ⟨B, 0, none⟩ = some (.slice A0 l0.length c0)) (hne : B ≠ blk) (hge : w0.heap.size ≤ blk) :
  CmpReads Try.prog 73 #[.pointer (some ⟨B, 0, none⟩)] (idxEnc (n := l0.length)) (idxCmp l0) blk 0 l0.length w := by
 intro m os dk hs x y
 refine orderCmp l0 A0 c0 B x.val y.val _ (Kd.C_below hr0 (below_sortWorld _ blk 0 m dk os hb hge)) ?_ x.isLt y.isLt
 exact (World.cell?_of_block (heap_sortWorld _ w blk 0 m dk os B hne (World.block_lt_of_cell? w _ hB))).trans hB
theorem orderInsert (l0 : List S49) [Inhabited (Fin l0.length)] (A0 : Option Addr) (c0 cap : Nat) (B g : Nat) (w0 w : World) (hr0 : Kd.C k49 w0 A0 l0.length l0) (hb : Below w0.heap.size w0 w) (hB : w.cell? ⟨B, 0, none⟩ = some (.slice A0 l0.length c0)) (hne : B ≠ g) (hge : w0.heap.size ≤ g)
  (d : Array (Fin l0.length)) (hd : d.size = l0.length) (hH : Holds idxEnc w g 0 d) (a b : Nat) (hab : a ≤ b) (hbn : b ≤ l0.length) (h20 : l0.length ≤ 20) :
  Calls Try.prog 96 #[.slice (some ⟨g, 0, none⟩) l0.length cap, .int .i64 a, .int .i64 b, .func (.func 73) #[] #[.pointer (some ⟨B, 0, none⟩)]] w fun e w' => e = .returned (.tuple #[]) ∧ ∃ n, w' = (putRow idxEnc w g 0 (Sort.insertionSort (ltOf (idxCmp l0)) d a b)).drewN n := by
 have h := Any.insertionSortCmpFunc_one insL (idxEnc (n := l0.length)) (fun _ => rfl) (idxCmp l0) 73 #[.pointer (some ⟨B, 0, none⟩)] g 0 cap a b d w (enters_of Try.func73 (by kernel_rfl) rfl) (by rw [hd]; exact orderReads l0 A0 c0 B g w0 w hr0 hb hB hne hge) hH hab (by omega) (by omega)
 change Calls Try.prog 96 _ _ _ at h
 rw [hd] at h
 exact h

theorem insert_none {α : Type} [Inhabited α] (lt : α → α → Bool) (d : Array α) (b : Nat) : Sort.insertionSort lt d b b = d := by
 unfold Sort.insertionSort Sort.insOuter
 rw [if_neg (by omega)]
theorem insInner_size {α : Type} [Inhabited α] (lt : α → α → Bool) (a : Nat) : ∀ (j : Nat) (d : Array α), (insInner lt a j d).size = d.size
 | 0, d => rfl
 | j + 1, d => by
  unfold insInner
  split
  ·rw [insInner_size lt a j, size_swp]
  ·rfl
theorem insOuter_size {α : Type} [Inhabited α] (lt : α → α → Bool) (a b : Nat) : ∀ (k i : Nat) (d : Array α), b - i = k → (insOuter lt a b i d).size = d.size := by
 intro k
 induction k with
 | zero =>
  intro i d h
  unfold insOuter
  rw [if_neg (by omega)]
 | succ k ih =>
  intro i d h
  unfold insOuter
  rw [if_pos (by omega), ih (i + 1) _ (by omega), insInner_size]
theorem size_insertionSort {α : Type} [Inhabited α] (lt : α → α → Bool) (d : Array α) (a b : Nat) : (Sort.insertionSort lt d a b).size = d.size := insOuter_size lt a b _ _ d rfl
/-- The state of the blocks' loop: nothing sorted yet, or all twenty. -/
def StRel (n : Nat) (W W1 : World) (v7 v8 : Value) (wr : World) : Prop := (v7 = .int .i64 0 ∧ v8 = .int .i64 20 ∧ wr = W) ∨ (n = 20 ∧ v7 = .int .i64 20 ∧ v8 = .int .i64 40 ∧ ∃ q, wr = W1.drewN q)
set_option maxHeartbeats 8000000 in
set_option maxRecDepth 100000 in
theorem orderStable (l0 : List S49) [Inhabited (Fin l0.length)] (A0 : Option Addr) (c0 cap : Nat) (B g : Nat) (w0 w : World) (hr0 : Kd.C k49 w0 A0 l0.length l0) (hb : Below w0.heap.size w0 w) (hB : w.cell? ⟨B, 0, none⟩ = some (.slice A0 l0.length c0)) (hne : B ≠ g) (hge : w0.heap.size ≤ g)
  (d : Array (Fin l0.length)) (hd : d.size = l0.length) (hH : Holds idxEnc w g 0 d) (h20 : l0.length ≤ 20) :
  Calls Try.prog 80 #[.slice (some ⟨g, 0, none⟩) l0.length cap, .int .i64 l0.length, .func (.func 73) #[] #[.pointer (some ⟨B, 0, none⟩)]] w fun e w' => e = .returned (.tuple #[]) ∧ ∃ n, w' = (putRow idxEnc w g 0 (Sort.insertionSort (ltOf (idxCmp l0)) d 0 l0.length)).drewN n := by
 obtain ⟨W1, hW1⟩ : ∃ W1, W1 = putRow idxEnc w g 0 (Sort.insertionSort (ltOf (idxCmp l0)) d 0 l0.length) := ⟨_, rfl⟩
 rw [← hW1]
 have I0 : Aside0 (Calls Try.prog 96 #[.slice (some ⟨g, 0, none⟩) l0.length cap, .int .i64 0, .int .i64 l0.length, .func (.func 73) #[] #[.pointer (some ⟨B, 0, none⟩)]] w fun e w' => e = .returned (.tuple #[]) ∧ ∃ n, w' = W1.drewN n) := ⟨by
  rw [hW1]; exact orderInsert l0 A0 c0 cap B g w0 w hr0 hb hB hne hge d hd hH 0 l0.length (by omega) (Nat.le_refl _) h20⟩
 have I1 : Aside0 (∀ q, Calls Try.prog 96 #[.slice (some ⟨g, 0, none⟩) l0.length cap, .int .i64 l0.length, .int .i64 l0.length, .func (.func 73) #[] #[.pointer (some ⟨B, 0, none⟩)]] (W1.drewN q) fun e w' => e = .returned (.tuple #[]) ∧ ∃ n, w' = W1.drewN n) := by
  refine ⟨fun q => ?_⟩
  have hs : (Sort.insertionSort (ltOf (idxCmp l0)) d 0 l0.length).size = d.size := size_insertionSort _ _ _ _
  have hH1 : Holds idxEnc (W1.drewN q) g 0 (Sort.insertionSort (ltOf (idxCmp l0)) d 0 l0.length) := by
   rw [hW1]
   exact holds_putRow idxEnc w g 0 d _ hH hs
  have hbW : Below w0.heap.size w0 (W1.drewN q) := by
   have := below_sortWorld idxEnc g 0 q (Sort.insertionSort (ltOf (idxCmp l0)) d 0 l0.length) #[] hb hge
   rw [sortWorld_none] at this
   rw [hW1]
   exact this
  have hBW : (W1.drewN q).cell? ⟨B, 0, none⟩ = some (.slice A0 l0.length c0) := by
   have := heap_sortWorld idxEnc w g 0 q (Sort.insertionSort (ltOf (idxCmp l0)) d 0 l0.length) #[] B hne (World.block_lt_of_cell? w _ hB)
   rw [sortWorld_none] at this
   rw [hW1]
   exact (World.cell?_of_block this).trans hB
  refine (orderInsert l0 A0 c0 cap B g w0 _ hr0 hbW hBW hne hge _ (hs.trans hd) hH1 l0.length l0.length (Nat.le_refl _) (Nat.le_refl _) h20).mono fun e w' ⟨he, n, hn⟩ => ⟨he, q + n, ?_⟩
  rw [hn, insert_none, putRow_self _ _ _ _ _ hH1, World.drewN_drewN]
 clear hW1 hr0 hb hB hH hd
 have hn20 : l0.length = 20 ∨ l0.length < 20 := by omega
 generalize l0.length = n at I0 I1 h20 hn20 ⊢
 go_enter Try.func80, Try.ntmps80
 go_wp2
 go_loopw [7, 8] (fun v7 v8 wr => StRel n w W1 v7 v8 wr) (fun _ v8 _ => 100 - (intOf v8).toNat)
 case atStart => exact .inl ⟨rfl, rfl, rfl⟩
 case round =>
  rcases hrel with ⟨rfl, rfl, rfl⟩ | ⟨rfl, rfl, rfl, q, rfl⟩
  ·by_cases hn : n = 20
   ·subst hn
    have e20 : ((20 : Nat) : Int) = 20 := rfl
    rw [e20] at I0 I1
    go_wp2_with (go_at_call 96; (with_reducible refine I0.out.mono ?_); rintro e w' ⟨rfl, q, rfl⟩)
    go_roundw
    case rel =>
     (repeat apply Exists.intro)
     exact ⟨.inr ⟨rfl, rfl, rfl, _, rfl⟩, rfl⟩
    case measure => simp [intOf]
   ·have hlt : ¬ (20 : Int) ≤ (n : Int) := by omega
    have hlt2 : ¬ (20 : Int) < (n : Int) := by omega
    go_wp2_with (go_at_call 96; (with_reducible refine I0.out.mono ?_); rintro e w' ⟨rfl, q, rfl⟩)
    go_loopw [6] (fun v6 wr => v6 = .int .i64 20 ∧ wr = W1.drewN q) (fun _ _ => 0)
    case atStart => exact ⟨rfl, rfl⟩
    case round =>
     obtain ⟨rfl, rfl⟩ := hrel
     go_wp2
     go_end0
     exact ⟨rfl, _, rfl⟩
  ·have e20 : ((20 : Nat) : Int) = 20 := rfl
   rw [e20] at I1
   have I2 := Aside0.mk (I1.out q)
   go_wp2_with (go_at_call 96; (with_reducible refine I2.out.mono ?_); rintro e w' ⟨rfl, q2, rfl⟩)
   go_loopw [6] (fun v6 wr => v6 = .int .i64 20 ∧ wr = W1.drewN q2) (fun _ _ => 0)
   case atStart => exact ⟨rfl, rfl⟩
   case round =>
    obtain ⟨rfl, rfl⟩ := hrel
    go_wp2
    go_end0
    exact ⟨rfl, _, rfl⟩

set_option maxHeartbeats 8000000 in
set_option maxRecDepth 100000 in
theorem orderInsert0 (A : Option Addr) (c : Nat) (B : Nat) (w : World) :
  Calls Try.prog 96 #[.slice A 0 c, .int .i64 0, .int .i64 0, .func (.func 73) #[] #[.pointer (some ⟨B, 0, none⟩)]] w fun e w' => e = .returned (.tuple #[]) ∧ w' = w := by
 go_enter Try.func96, Try.ntmps96
 go_wp2
 go_loopw [8] (fun v8 wr => v8 = .int .i64 1 ∧ wr = w) (fun _ _ => 0)
 case atStart => exact ⟨rfl, rfl⟩
 case round =>
  obtain ⟨rfl, rfl⟩ := hrel
  go_wp2
  go_end0
  exact ⟨rfl, rfl⟩
set_option maxHeartbeats 8000000 in
set_option maxRecDepth 100000 in
theorem orderStable0 (A : Option Addr) (c : Nat) (B : Nat) (w : World) :
  Calls Try.prog 80 #[.slice A 0 c, .int .i64 0, .func (.func 73) #[] #[.pointer (some ⟨B, 0, none⟩)]] w fun e w' => e = .returned (.tuple #[]) ∧ w' = w := by
 have I := Aside0.mk (orderInsert0 A c B w)
 go_enter Try.func80, Try.ntmps80
 go_wp2
 go_loopw [7, 8] (fun v7 v8 wr => v7 = .int .i64 0 ∧ v8 = .int .i64 20 ∧ wr = w) (fun _ _ _ => 0)
 case atStart => exact ⟨rfl, rfl, rfl⟩
 case round =>
  obtain ⟨rfl, rfl, rfl⟩ := hrel
  go_wp2_with (go_at_call 96; (with_reducible refine I.out.mono ?_); rintro e w' ⟨rfl, rfl⟩)
  go_loopw [6] (fun v6 wr => v6 = .int .i64 20 ∧ wr = w') (fun _ _ => 0)
  case atStart => exact ⟨rfl, rfl⟩
  case round =>
   obtain ⟨rfl, rfl⟩ := hrel
   go_wp2
   go_end0
   exact ⟨rfl, rfl⟩
theorem own_putRow {n : Nat} [Inhabited (Fin n)] {W : World} {base g cap : Nat} {xs : List Int} {d1 : Array (Fin n)} (h : W.ownsRow base 3 1 (.slice (some ⟨g, 0, none⟩) n cap) n (nums .i64 xs)) (hd1 : d1.size = n) (q : Nat) :
  ((putRow idxEnc W g 0 d1).drewN q).ownsRow base 3 1 (.slice (some ⟨g, 0, none⟩) n cap) n (nums .i64 (d1.toList.map fun i => (i.val : Int))) := by
 obtain ⟨h1, h2⟩ := h
 refine ⟨by simp [nums, hd1], ?_⟩
 rcases h2 with ⟨h2, _⟩ | ⟨g', cap', cur, he, hb, hh, hn, hm, hs, ht⟩
 ·cases h2
 ·obtain ⟨rfl, rfl⟩ : g = g' ∧ cap = cap' := by simpa using he
  refine .inr ⟨g, cap, putCells idxEnc 0 d1 cur, rfl, hb, ?_, hn, hm, by simp [putCells, hs], ?_⟩
  ·show (W.heap.modify g _)[g]? = _
   rw [Array.getElem?_modify, if_pos rfl, hh]
   rfl
  ·apply List.ext_getElem?
   intro k
   rw [Nat.mul_one, List.getElem?_take]
   by_cases hk : k < n
   ·rw [if_pos hk]
    have hkc : k < cur.size := by omega
    have hkd : k < d1.size := by omega
    simp only [putCells, nums, Array.getElem?_toList, Array.getElem?_mapIdx, List.getElem?_map]
    rw [Array.getElem?_eq_getElem hkc, Array.getElem?_eq_getElem hkd]
    simp [hk, hd1, idxEnc, hkd]
   ·rw [if_neg hk]
    symm
    rw [List.getElem?_eq_none_iff]
    simp [nums, hd1]
    omega
theorem own_holds {n : Nat} [Inhabited (Fin n)] {W : World} {base g cap : Nat} {d : Array (Fin n)} (hd : d.size = n) (h : W.ownsRow base 3 1 (.slice (some ⟨g, 0, none⟩) n cap) n (nums .i64 (d.toList.map fun i => (i.val : Int)))) : Holds idxEnc W g 0 d := by
 intro j hj
 obtain ⟨hc, hf⟩ := own_at h (j : Int) (by omega) (by omega)
 rw [Int.toNat_natCast] at hc hf
 rw [Nat.zero_add]
 refine ⟨hc.trans ?_, hf⟩
 congr 1
 unfold idxEnc
 congr 1
 rw [Go.Proofs.Ytedidhfmknhlkaa.Base.rd_nat _ j (by simpa using hj)]
 simp [getElem!_pos d j hj]
def sortedIdx (l0 : List S49) : List Int :=
 if h : 0 < l0.length then (@Sort.insertionSort (Fin l0.length) ⟨⟨0, h⟩⟩ (ltOf (idxCmp l0)) (Array.ofFn fun i => i) 0 l0.length).toList.map (fun i => (i.val : Int)) else []
set_option maxHeartbeats 8000000 in
set_option maxRecDepth 100000 in
theorem orderSort (l0 : List S49) (A0 : Option Addr) (c0 : Nat) (B : Nat) (w0 w : World) (v : Value) (hr0 : Kd.C k49 w0 A0 l0.length l0) (hb : Below w0.heap.size w0 w) (hB : w.cell? ⟨B, 0, none⟩ = some (.slice A0 l0.length c0)) (hge : w0.heap.size ≤ B)
  (ho : w.ownsRow w0.heap.size 3 1 v l0.length (nums .i64 ((List.range l0.length).map fun i : Nat => (i : Int)))) (hne : some B ≠ v.ownBlock) (h20 : l0.length ≤ 20) :
  Calls Try.prog 72 #[v, .func (.func 73) #[] #[.pointer (some ⟨B, 0, none⟩)]] w fun e w' => e = .returned (.tuple #[]) ∧ w'.ownsRow w0.heap.size 3 1 v l0.length (nums .i64 (sortedIdx l0)) ∧ Below w0.heap.size w0 w' := by
 rcases Nat.eq_zero_or_pos l0.length with h0 | hp
 ·have hs : sortedIdx l0 = [] := by unfold sortedIdx; rw [dif_neg (by omega)]
  rw [hs]
  have ho2 : w.ownsRow w0.heap.size 3 1 v l0.length (nums .i64 []) := by
   have : ((List.range l0.length).map fun i : Nat => (i : Int)) = [] := by rw [h0]; rfl
   rwa [this] at ho
  obtain ⟨A, c, rfl⟩ := own_slice ho2
  rw [h0]
  rw [h0] at ho2
  have I := Aside0.mk (orderStable0 A c B w)
  have HO := Aside0.mk ho2
  have HB := Aside0.mk hb
  clear ho ho2 hb hB hr0 hs hne
  go_enter Try.func72, Try.ntmps72
  go_wp2_with (go_at_call 80; (with_reducible refine I.out.mono ?_); rintro e w' ⟨rfl, rfl⟩)
  go_end0
  exact ⟨rfl, HO.out, HB.out⟩
 ·obtain ⟨g, cap, rfl, hgb, hgl⟩ := ho.form hp
  letI : Inhabited (Fin l0.length) := ⟨⟨0, hp⟩⟩
  have hxs : ((List.range l0.length).map fun i : Nat => (i : Int)) = ((Array.ofFn fun i : Fin l0.length => i).toList.map fun i => (i.val : Int)) := by
   apply List.ext_getElem
   ·simp
   ·intro k h1 h2; simp
  rw [hxs] at ho
  have hd : (Array.ofFn fun i : Fin l0.length => i).size = l0.length := Array.size_ofFn
  have hH := own_holds hd ho
  have hne2 : B ≠ g := fun e => hne (by rw [e]; rfl)
  have hst := orderStable l0 A0 c0 cap B g w0 w hr0 hb hB hne2 hgb (Array.ofFn fun i => i) hd hH h20
  have hss : sortedIdx l0 = (Sort.insertionSort (ltOf (idxCmp l0)) (Array.ofFn fun i => i) 0 l0.length).toList.map (fun i => (i.val : Int)) := by unfold sortedIdx; rw [dif_pos hp]
  rw [hss]
  have hsz : (Sort.insertionSort (ltOf (idxCmp l0)) (Array.ofFn fun i : Fin l0.length => i) 0 l0.length).size = l0.length := (size_insertionSort _ _ _ _).trans hd
  generalize Sort.insertionSort (ltOf (idxCmp l0)) (Array.ofFn fun i : Fin l0.length => i) 0 l0.length = d1 at hst hsz ⊢
  have HO : Aside0 (∀ q, ((putRow idxEnc w g 0 d1).drewN q).ownsRow w0.heap.size 3 1 (.slice (some ⟨g, 0, none⟩) l0.length cap) l0.length (nums .i64 (d1.toList.map fun i => (i.val : Int)))) := ⟨fun q => own_putRow ho hsz q⟩
  have HB : Aside0 (∀ q, Below w0.heap.size w0 ((putRow idxEnc w g 0 d1).drewN q)) := ⟨fun q => by
   have := below_sortWorld idxEnc g 0 q d1 #[] hb hgb
   rwa [sortWorld_none] at this⟩
  have I := Aside0.mk hst
  clear hst ho hxs hH hd hss hsz hr0 hb hB hne hne2
  go_enter Try.func72, Try.ntmps72
  go_wp2_with (go_at_call 80; (with_reducible refine I.out.mono ?_); rintro e w' ⟨rfl, q, rfl⟩)
  go_end0
  exact ⟨rfl, HO.out q, HB.out q⟩

theorem not_own {S B : Nat} {v1 v3 : Value} (hat : v1.ownBlock = v3.ownBlock ∨ ∃ b, v1.ownBlock = some b ∧ S ≤ b) (hn : some B ≠ v3.ownBlock) (hB : B < S) : some B ≠ v1.ownBlock := by
 rcases hat with hat | ⟨b, hat, hle⟩
 ·rw [hat]; exact hn
 ·rw [hat]
  intro e
  injection e with e
  omega
def irange (i : Nat) : List Int := (List.range i).map fun j : Nat => (j : Int)
theorem irange_length (i : Nat) : (irange i).length = i := by simp [irange]
theorem irange_succ (i : Nat) : irange i ++ [(i : Int)] = irange (i + 1) := by simp [irange, List.range_succ]
theorem info3b : (Try.prog.info? 3).map (fun i => (i.zero, i.size, i.bytes)) = some (some (.int .i64 0), 1, 8) := by kernel_rfl
def impl_workOrder.f (l0 : List S49) : Option (List Int) := if l0.length ≤ 20 then some (sortedIdx l0) else none
theorem sortedIdx_length (l0 : List S49) : (sortedIdx l0).length = l0.length := by
 unfold sortedIdx
 split
 ·rename_i h
  rw [List.length_map, Array.length_toList]
  exact (@size_insertionSort (Fin l0.length) ⟨⟨0, h⟩⟩ _ _ _ _).trans Array.size_ofFn
 ·simp; omega
set_option maxHeartbeats 8000000 in
set_option maxRecDepth 100000 in
theorem impl_workOrder.calls (A0 : Option Addr) (c0 : Nat) (l0 : List (S49)) (r : List Int) (w : World) (hr0 : Kd.C k49 w A0 l0.length l0) (hc0 : l0.length ≤ c0) (h : impl_workOrder.f l0 = some r) :
  Calls Try.prog 55 #[.slice A0 l0.length c0] w fun e w' => ∃ v0_ : Value, e = .returned (v0_) ∧ Kd.R (Kd.int .i64) 3 w' w.heap.size (fun _ => True) v0_ r ∧ Below w.heap.size w w' := by
 unfold impl_workOrder.f at h
 by_cases h20 : l0.length ≤ 20
 ·rw [if_pos h20] at h
  obtain rfl := Option.some.inj h
  have HR0 := Aside0.mk hr0
  clear hr0 h hc0
  go_enter Try.func55, Try.ntmps55
  go_wp2
  go_loopw [3, 8] (fun v3 v8 wr => ∃ i : Nat, v8 = .int .i64 i ∧ i ≤ l0.length ∧ Aside0 (wr.ownsRow w.heap.size 3 1 v3 (irange i).length (nums .i64 (irange i))) ∧ Aside0 (Below w.heap.size w wr) ∧ Aside0 (wr.cell? ⟨w.heap.size, 0, none⟩ = some (.slice A0 l0.length c0)) ∧ Aside0 (some w.heap.size ≠ v3.ownBlock)) (fun _ v8 _ => l0.length - (intOf v8).toNat)
  case atStart =>
   refine ⟨0, rfl, Nat.zero_le _, ⟨?_⟩, ⟨?_⟩, ⟨?_⟩, ⟨?_⟩⟩
   ·have := own_lit (w.alloc (.cells #[Value.slice A0 l0.length c0] 25)) w.heap.size 3 .i64 [] (by simp) (by simp)
    simpa [irange, nums] using this
   ·exact ((Below.refl _ _).alloc (Nat.le_refl _) _).alloc (by simp) _
   ·simp [World.cell?_alloc_new]
   ·simp [Value.ownBlock]
  case round =>
   obtain ⟨i, rfl, hi, HO, HB, HC, HN⟩ := hrel
   by_cases hlt : i < l0.length
   ·go_wp2_with (at_builtin; refine print_append_num (w0 := w) w.heap.size rfl (.tmp 11) (.tmp 13) 63 3 .i64 8 rfl Try.underlying63 info3b (by decide) u3 (irange i) (i : Int) rfl rfl HO.out HB.out HB.out.size ?aL ?_; (case aL => rw [irange_length]; omega); intro v1 w1 hown hb1 hg hat; rw [irange_succ] at hown; have n0_ := Aside0.mk hown; have n1_ := Aside0.mk hb1; have n2_ := Aside0.mk (hg.cell HC.out HN.out); have n3_ := Aside0.mk (not_own hat HN.out (World.block_lt_of_cell? wr _ HC.out)); clear hown hb1 hg hat)
    go_roundw
    case rel => exact ⟨i + 1, by go_num, by omega, n0_, n1_, n2_, n3_⟩
    case measure => simp [intOf]; omega
   ·have hin : i = l0.length := by omega
    subst hin
    have ho := HO.out
    rw [irange_length] at ho
    have I := Aside0.mk (orderSort l0 A0 c0 w.heap.size w wr u3 HR0.out HB.out HC.out (Nat.le_refl _) ho HN.out h20)
    clear ho
    go_wp2_with (go_at_call 72; (with_reducible refine I.out.mono ?_); rintro e w' ⟨rfl, ho, hb⟩; have n0_ := Aside0.mk ho; have n1_ := Aside0.mk hb; clear ho hb)
    go_ret
    refine ⟨u3, rfl, ?_, n1_.out⟩
    have hl := sortedIdx_length l0
    have ho := n0_.out
    refine Kd.R_of_own (enc := Value.int .i64) (h1 := fun _ => rfl) ?_ ?_
    ·rw [hl]; exact ho
    ·exact fun _ _ => trivial
 ·rw [if_neg h20] at h
  cases h
end


/-! ### impl_NextOrder: function 30 -/
def impl_NextOrder.l0 : Nat → List (S49) → List Int → Int → Int → Option (Int × Int)
 | 0, _, _, _, _ => none
 | k + 1, x0, x10, x11, x12 => if x12 < x11 then (if 0 ≤ x12 then (if x12 < (x10.length : Int) then (if 0 ≤ (rd x10 x12) then (if (rd x10 x12) < (x0.length : Int) then ((impl_hoursLeft.f ((rd_T49 x0 (rd x10 x12)).f0) ((rd_T49 x0 (rd x10 x12)).f1) ((rd_T49 x0 (rd x10 x12)).f2) ((rd_T49 x0 (rd x10 x12)).f3) ((rd_T49 x0 (rd x10 x12)).f4)).bind fun t118 => (if t118 > 0 then (some ((rd_T49 x0 (rd x10 x12)).f0, 0)) else (impl_NextOrder.l0 k x0 x10 x11 (wrap64 (x12 + 1))))) else (none)) else (none)) else (none)) else (none)) else (some (0, 3))
def impl_NextOrder.f (k : Nat) (l0 : List (S49)) : Option (Int × Int) := (impl_ValidOrders.f k l0).bind fun t112 => (if t112 = true then ((impl_workOrder.f l0).bind fun t113 => (impl_NextOrder.l0 k l0 t113 (t113.length : Int) 0)) else (some (0, 1)))
theorem impl_NextOrder.mono_l : ∀ k, (∀ y0 y1 y2 y3, LeO (impl_NextOrder.l0 k y0 y1 y2 y3) (impl_NextOrder.l0 (k + 1) y0 y1 y2 y3))
 | 0 => fun _ _ _ _ r h => by simp [impl_NextOrder.l0] at h
 | k + 1 => by
  have ih0 := impl_NextOrder.mono_l k
  ·intro y0 y1 y2 y3
   unfold impl_NextOrder.l0
   repeat' first
   | (with_reducible exact ih0 _ _ _ _)
   | (with_reducible exact impl_ValidOrders.mono _ _)
   | (with_reducible exact LeO.refl _)
   | (with_reducible exact LeO.none _)
   | (with_reducible refine LeO.ite ?_ ?_)
   | (with_reducible refine LeO.bind ?_ (fun _ => ?_))
   | exact ih0 _ _ _ _
   | exact impl_ValidOrders.mono _ _
   | exact LeO.none _
   | refine LeO.ite ?_ ?_
   | refine LeO.bind ?_ (fun _ => ?_)
theorem impl_NextOrder.mono : ∀ a0 k, LeO (impl_NextOrder.f k a0) (impl_NextOrder.f (k + 1) a0) := by
 intro a0 k
 have ih0 := impl_NextOrder.mono_l k
 unfold impl_NextOrder.f
 repeat' first
   | (with_reducible exact ih0 _ _ _ _)
   | (with_reducible exact impl_ValidOrders.mono _ _)
   | (with_reducible exact LeO.refl _)
   | (with_reducible exact LeO.none _)
   | (with_reducible refine LeO.ite ?_ ?_)
   | (with_reducible refine LeO.bind ?_ (fun _ => ?_))
   | exact ih0 _ _ _ _
   | exact impl_ValidOrders.mono _ _
   | exact LeO.none _
   | refine LeO.ite ?_ ?_
   | refine LeO.bind ?_ (fun _ => ?_)
set_option maxHeartbeats 8000000 in
set_option maxRecDepth 100000 in
theorem impl_NextOrder.calls (k : Nat) (A0 : Option Addr) (c0 : Nat) (l0 : List (S49)) (r1 : Int) (r2 : Int) (w : World) (hr0 : Kd.C k49 w A0 l0.length l0) (hc0 : l0.length ≤ c0) (h : impl_NextOrder.f k l0 = some (r1, r2)) :
  Calls Try.prog 30 #[.slice A0 l0.length c0] w fun e w' => e = .returned (.tuple #[.int .i64 r1, .int .i64 r2]) ∧ Below w.heap.size w w' := by
 have hu49 := Try.underlying49
 have HR0 := Aside0.mk hr0
 have HC0 := Aside0.mk hc0
 clear hr0 hc0
 have HB := Aside0.mk (Below.refl w.heap.size w)
 have H : ((impl_ValidOrders.f k l0).bind fun t112 => (if t112 = true then ((impl_workOrder.f l0).bind fun t113 => (impl_NextOrder.l0 k l0 t113 (t113.length : Int) 0)) else (some (0, 1)))) = some (r1, r2) := h
 clear h
 replace H := Option.bind_eq_some_iff.mp H
 obtain ⟨t112, A20, H⟩ := H
 replace H : (if t112 = true then ((impl_workOrder.f l0).bind fun t113 => (impl_NextOrder.l0 k l0 t113 (t113.length : Int) 0)) else (some (0, 1))) = some (r1, r2) := H
 have A2 := Aside0.mk A20
 clear A20
 by_cases c3 : t112 = true
 ·subst c3
  have H1 : ((impl_workOrder.f l0).bind fun t113 => (impl_NextOrder.l0 k l0 t113 (t113.length : Int) 0)) = some (r1, r2) := by rw [if_pos rfl] at H; exact H
  clear H
  have H := H1
  clear H1
  replace H := Option.bind_eq_some_iff.mp H
  obtain ⟨t113, A40, H⟩ := H
  replace H : (impl_NextOrder.l0 k l0 t113 (t113.length : Int) 0) = some (r1, r2) := H
  have A4 := Aside0.mk A40
  clear A40
  have H' := Aside0.mk H
  clear H
  go_enter Try.func30, Try.ntmps30
  go_wp2_with (first | ((with_reducible refine gate_callee (f := 16) rfl ?_); refine goesL_ (some 7) rfl rfl Try.func16 (by kernel_rfl) rfl #[.slice A0 l0.length c0] rfl (by (try simp only [List.map_toArray, List.map_cons, List.map_nil]); first | done | rfl | (simp only [List.length_drop, List.length_take]; rfl)) ?_; (with_reducible refine (impl_ValidOrders.calls k _ _ l0 true _ ?side1 ?side2 A2.out).mono ?_); (case side1 => repeat (first | exact HR0.out | (with_reducible refine Kd.C_alloc ?_ _) | (with_reducible refine Kd.C_drewN ?_ _) | (with_reducible refine Kd.C_drew ?_))); (case side2 => exact HC0.out); rintro e w5 ⟨rfl, hb⟩; refine ⟨_, rfl, ?_⟩; have n0_ := Aside0.mk (below_step (by repeat (first | (with_reducible first | exact HB.out | apply below_alloc | apply pw_below_drewN | apply below_drew1) | exact HB.out)) hb); clear HB; have HB := n0_; clear n0_; (try clear hb); (try clear hb2); (try clear hk); (try clear hi)) | ((with_reducible refine gate_callee (f := 55) rfl ?_); refine goesL_ (some 10) rfl rfl Try.func55 (by kernel_rfl) rfl #[.slice A0 l0.length c0] rfl (by (try simp only [List.map_toArray, List.map_cons, List.map_nil]); first | done | rfl | (simp only [List.length_drop, List.length_take]; rfl)) ?_; (with_reducible refine (impl_workOrder.calls _ _ l0 t113 _ ?side1 ?side2 A4.out).mono ?_); (case side1 => repeat (first | exact (Kd.C_below HR0.out HB.out) | (with_reducible refine Kd.C_alloc ?_ _) | (with_reducible refine Kd.C_drewN ?_ _) | (with_reducible refine Kd.C_drew ?_))); (case side2 => exact HC0.out); rintro e w6 ⟨v114, rfl, ho0, hb⟩; refine ⟨_, rfl, ?_⟩; have n0_ := Aside0.mk (Kd.R_lower ho0 (below_size (by repeat (first | (with_reducible first | exact HB.out | apply below_alloc | apply pw_below_drewN | apply below_drew1) | exact HB.out)))); have n1_ := Aside0.mk (below_step (by repeat (first | (with_reducible first | exact HB.out | apply below_alloc | apply pw_below_drewN | apply below_drew1) | exact HB.out)) hb); clear HB; have HO115 := n0_; have HB := n1_; clear n0_ n1_; (try clear hb); (try clear hb2); (try clear hk); (try clear hi); (try clear ho0); obtain ⟨Ao7, co7, eo7⟩ := Kd.R_slice HO115.out; subst eo7))
  go_loopg [12] k (fun kq v12 w' => ∃ (x12_1 : Int), v12 = .int .i64 x12_1 ∧ Aside0 (impl_NextOrder.l0 kq l0 t113 (t113.length : Int) x12_1 = some (r1, r2)) ∧ Aside0 (kq ≤ k) ∧ Aside0 (Kd.R (Kd.int .i64) 3 w' w.heap.size (fun _ => True) (.slice Ao7 t113.length co7) t113) ∧ Aside0 (Below w.heap.size w w'))
  case atStart => exact ⟨(0), (by first | rfl | (simp; done) | (simp [*]; done)), H', ⟨Nat.le_refl _⟩, ⟨by (with_reducible repeat (first | apply Kd.R_alloc | apply Kd.R_drewN | apply Kd.R_drew)); exact HO115.out⟩, ⟨by repeat (first | (with_reducible first | exact HB.out | apply below_alloc | apply pw_below_drewN | apply below_drew1) | exact HB.out)⟩⟩
  case round =>
   clear H'
   (try clear c1);(try clear p2);(try clear c3);(try clear c5)
   obtain ⟨x12_1, rfl, HA, HK1, HO_10, HB⟩ := hrel
   cases gk with
   | zero => exact absurd HA.out (by simp [impl_NextOrder.l0])
   | succ k1 =>
    have H := HA.out
    clear HA
    simp only [impl_NextOrder.l0] at H
    by_cases c8 : x12_1 < (t113.length : Int)
    ·rw [if_pos c8] at H
     have c8b0 : decide (x12_1 < (t113.length : Int)) = true := decide_eq_true c8
     clear c8
     by_cases c9 : 0 ≤ x12_1
     ·rw [if_pos c9] at H
      have c9b0 : decide (0 ≤ x12_1) = true := decide_eq_true c9
      clear c9
      by_cases c10 : x12_1 < (t113.length : Int)
      ·rw [if_pos c10] at H
       have c10b0 : decide (x12_1 < (t113.length : Int)) = true := decide_eq_true c10
       clear c10
       by_cases c11 : 0 ≤ (rd t113 x12_1)
       ·rw [if_pos c11] at H
        have c11b0 : decide (0 ≤ (rd t113 x12_1)) = true := decide_eq_true c11
        clear c11
        by_cases c12 : (rd t113 x12_1) < (l0.length : Int)
        ·rw [if_pos c12] at H
         have c12b0 : decide ((rd t113 x12_1) < (l0.length : Int)) = true := decide_eq_true c12
         clear c12
         replace H := Option.bind_eq_some_iff.mp H
         obtain ⟨t118, A130, H⟩ := H
         replace H : (if t118 > 0 then (some ((rd_T49 l0 (rd t113 x12_1)).f0, 0)) else (impl_NextOrder.l0 k1 l0 t113 (t113.length : Int) (wrap64 (x12_1 + 1)))) = some (r1, r2) := H
         have A13 := Aside0.mk A130
         clear A130
         by_cases c14 : t118 > 0
         ·rw [if_pos c14] at H
          have c14b0 : decide (0 < t118) = true := decide_eq_true c14
          clear c14
          simp only [Option.some.injEq, Prod.mk.injEq] at H
          obtain ⟨rfl, rfl⟩ := H
          have p116 : 0 ≤ (x12_1 : Int) := of_decide_eq_true (by first | (with_reducible assumption) | assumption)
          have q116 : x12_1 < (t113.length : Int) := of_decide_eq_true (by first | (with_reducible assumption) | assumption)
          obtain ⟨ad116, e116, hx116_0⟩ := Kd.at_int (Kd.R_reads' HO_10.out).2.2 x12_1 p116 q116
          cases e116
          replace p116 := eq_true p116
          replace q116 := eq_true q116
          have p117 : 0 ≤ ((rd t113 x12_1) : Int) := of_decide_eq_true (by first | (with_reducible assumption) | assumption)
          have q117 : (rd t113 x12_1) < (l0.length : Int) := of_decide_eq_true (by first | (with_reducible assumption) | assumption)
          obtain ⟨ad117, e117, hx117_0, hx117_1, hx117_2, hx117_3, hx117_4⟩ := at_T49 HR0.out (rd t113 x12_1) p117 q117
          cases e117
          replace hx117_0 := (HB.out.cell (World.block_lt_of_cell? w _ hx117_0)).trans hx117_0
          replace hx117_1 := (HB.out.cell (World.block_lt_of_cell? w _ hx117_1)).trans hx117_1
          replace hx117_2 := (HB.out.cell (World.block_lt_of_cell? w _ hx117_2)).trans hx117_2
          replace hx117_3 := (HB.out.cell (World.block_lt_of_cell? w _ hx117_3)).trans hx117_3
          replace hx117_4 := (HB.out.cell (World.block_lt_of_cell? w _ hx117_4)).trans hx117_4
          replace p117 := eq_true p117
          replace q117 := eq_true q117
          go_wp2_with (first | ((with_reducible refine gate_callee (f := 47) rfl ?_); refine goesL_ (some 20) rfl rfl Try.func47 (by kernel_rfl) rfl #[.agg #[.int .i64 ((rd_T49 l0 (rd t113 x12_1)).f0), .string ((rd_T49 l0 (rd t113 x12_1)).f1), .int .i64 ((rd_T49 l0 (rd t113 x12_1)).f2), .int .i64 ((rd_T49 l0 (rd t113 x12_1)).f3), .int .i64 ((rd_T49 l0 (rd t113 x12_1)).f4)]] rfl (by (try simp only [List.map_toArray, List.map_cons, List.map_nil]); first | done | rfl | (simp only [List.length_drop, List.length_take]; rfl)) ?_; (with_reducible refine (impl_hoursLeft.calls ((rd_T49 l0 (rd t113 x12_1)).f0) ((rd_T49 l0 (rd t113 x12_1)).f1) ((rd_T49 l0 (rd t113 x12_1)).f2) ((rd_T49 l0 (rd t113 x12_1)).f3) ((rd_T49 l0 (rd t113 x12_1)).f4) t118 _ A13.out).mono ?_); rintro e w15 ⟨rfl, hb⟩; refine ⟨_, rfl, ?_⟩; have n0_ := Aside0.mk (Kd.R_below (by (with_reducible repeat (first | apply Kd.R_alloc | apply Kd.R_drewN | apply Kd.R_drew)); exact HO_10.out) hb); have n1_ := Aside0.mk (below_step (by repeat (first | (with_reducible first | exact HB.out | apply below_alloc | apply pw_below_drewN | apply below_drew1) | exact HB.out)) hb); clear HO_10; clear HB; have HO_10 := n0_; have HB := n1_; clear n0_ n1_; (try clear hb); (try clear hb2); (try clear hk); (try clear hi); have p119 : 0 ≤ ((rd t113 x12_1) : Int) := of_decide_eq_true (by first | (with_reducible assumption) | assumption); have q119 : (rd t113 x12_1) < (l0.length : Int) := of_decide_eq_true (by first | (with_reducible assumption) | assumption); obtain ⟨ad119, e119, hx119_0, hx119_1, hx119_2, hx119_3, hx119_4⟩ := at_T49 HR0.out (rd t113 x12_1) p119 q119; obtain rfl : ad117 = ad119 := (by injection e119); replace hx119_0 := (HB.out.cell (World.block_lt_of_cell? w _ hx119_0)).trans hx119_0; replace hx119_1 := (HB.out.cell (World.block_lt_of_cell? w _ hx119_1)).trans hx119_1; replace hx119_2 := (HB.out.cell (World.block_lt_of_cell? w _ hx119_2)).trans hx119_2; replace hx119_3 := (HB.out.cell (World.block_lt_of_cell? w _ hx119_3)).trans hx119_3; replace hx119_4 := (HB.out.cell (World.block_lt_of_cell? w _ hx119_4)).trans hx119_4; replace p119 := eq_true p119; replace q119 := eq_true q119))
          go_ret2
          exact ⟨by first | rfl | (simp [errW_none, errW_some] <;> rfl) | (simp [*, errW_none, errW_some] <;> rfl), by repeat (first | (with_reducible first | exact HB.out | apply below_alloc | apply pw_below_drewN | apply below_drew1) | exact HB.out)⟩
         ·rw [if_neg c14] at H
          have c14b0 : decide (0 < t118) = false := decide_eq_false c14
          clear c14
          have H' := Aside0.mk H
          clear H
          have p116 : 0 ≤ (x12_1 : Int) := of_decide_eq_true (by first | (with_reducible assumption) | assumption)
          have q116 : x12_1 < (t113.length : Int) := of_decide_eq_true (by first | (with_reducible assumption) | assumption)
          obtain ⟨ad116, e116, hx116_0⟩ := Kd.at_int (Kd.R_reads' HO_10.out).2.2 x12_1 p116 q116
          cases e116
          replace p116 := eq_true p116
          replace q116 := eq_true q116
          have p117 : 0 ≤ ((rd t113 x12_1) : Int) := of_decide_eq_true (by first | (with_reducible assumption) | assumption)
          have q117 : (rd t113 x12_1) < (l0.length : Int) := of_decide_eq_true (by first | (with_reducible assumption) | assumption)
          obtain ⟨ad117, e117, hx117_0, hx117_1, hx117_2, hx117_3, hx117_4⟩ := at_T49 HR0.out (rd t113 x12_1) p117 q117
          cases e117
          replace hx117_0 := (HB.out.cell (World.block_lt_of_cell? w _ hx117_0)).trans hx117_0
          replace hx117_1 := (HB.out.cell (World.block_lt_of_cell? w _ hx117_1)).trans hx117_1
          replace hx117_2 := (HB.out.cell (World.block_lt_of_cell? w _ hx117_2)).trans hx117_2
          replace hx117_3 := (HB.out.cell (World.block_lt_of_cell? w _ hx117_3)).trans hx117_3
          replace hx117_4 := (HB.out.cell (World.block_lt_of_cell? w _ hx117_4)).trans hx117_4
          replace p117 := eq_true p117
          replace q117 := eq_true q117
          go_wp2_with (first | ((with_reducible refine gate_callee (f := 47) rfl ?_); refine goesL_ (some 20) rfl rfl Try.func47 (by kernel_rfl) rfl #[.agg #[.int .i64 ((rd_T49 l0 (rd t113 x12_1)).f0), .string ((rd_T49 l0 (rd t113 x12_1)).f1), .int .i64 ((rd_T49 l0 (rd t113 x12_1)).f2), .int .i64 ((rd_T49 l0 (rd t113 x12_1)).f3), .int .i64 ((rd_T49 l0 (rd t113 x12_1)).f4)]] rfl (by (try simp only [List.map_toArray, List.map_cons, List.map_nil]); first | done | rfl | (simp only [List.length_drop, List.length_take]; rfl)) ?_; (with_reducible refine (impl_hoursLeft.calls ((rd_T49 l0 (rd t113 x12_1)).f0) ((rd_T49 l0 (rd t113 x12_1)).f1) ((rd_T49 l0 (rd t113 x12_1)).f2) ((rd_T49 l0 (rd t113 x12_1)).f3) ((rd_T49 l0 (rd t113 x12_1)).f4) t118 _ A13.out).mono ?_); rintro e w16 ⟨rfl, hb⟩; refine ⟨_, rfl, ?_⟩; have n0_ := Aside0.mk (Kd.R_below (by (with_reducible repeat (first | apply Kd.R_alloc | apply Kd.R_drewN | apply Kd.R_drew)); exact HO_10.out) hb); have n1_ := Aside0.mk (below_step (by repeat (first | (with_reducible first | exact HB.out | apply below_alloc | apply pw_below_drewN | apply below_drew1) | exact HB.out)) hb); clear HO_10; clear HB; have HO_10 := n0_; have HB := n1_; clear n0_ n1_; (try clear hb); (try clear hb2); (try clear hk); (try clear hi)))
          go_roundg k1
          case measure => have := HK1.out; omega
          case rel => exact ⟨(wrap64 (x12_1 + 1)), (by first | rfl | (simp; done) | (simp [*]; done)), H', ⟨by have := HK1.out; omega⟩, ⟨by (with_reducible repeat (first | apply Kd.R_alloc | apply Kd.R_drewN | apply Kd.R_drew)); exact HO_10.out⟩, ⟨by repeat (first | (with_reducible first | exact HB.out | apply below_alloc | apply pw_below_drewN | apply below_drew1) | exact HB.out)⟩⟩
        ·rw [if_neg c12] at H
         exact absurd H (by simp)
       ·rw [if_neg c11] at H
        exact absurd H (by simp)
      ·rw [if_neg c10] at H
       exact absurd H (by simp)
     ·rw [if_neg c9] at H
      exact absurd H (by simp)
    ·rw [if_neg c8] at H
     have c8b0 : decide (x12_1 < (t113.length : Int)) = false := decide_eq_false c8
     clear c8
     simp only [Option.some.injEq, Prod.mk.injEq] at H
     obtain ⟨rfl, rfl⟩ := H
     go_wp2
     go_ret2
     exact ⟨by first | rfl | (simp [errW_none, errW_some] <;> rfl) | (simp [*, errW_none, errW_some] <;> rfl), by repeat (first | (with_reducible first | exact HB.out | apply below_alloc | apply pw_below_drewN | apply below_drew1) | exact HB.out)⟩
 ·replace c3 := Bool.eq_false_iff.mpr c3
  subst c3
  have H1 : (some (0, 1)) = some (r1, r2) := by rw [if_neg (show ¬ (false = true) by decide)] at H; exact H
  clear H
  have H := H1
  clear H1
  simp only [Option.some.injEq, Prod.mk.injEq] at H
  obtain ⟨rfl, rfl⟩ := H
  go_enter Try.func30, Try.ntmps30
  go_wp2_with (first | ((with_reducible refine gate_callee (f := 16) rfl ?_); refine goesL_ (some 7) rfl rfl Try.func16 (by kernel_rfl) rfl #[.slice A0 l0.length c0] rfl (by (try simp only [List.map_toArray, List.map_cons, List.map_nil]); first | done | rfl | (simp only [List.length_drop, List.length_take]; rfl)) ?_; (with_reducible refine (impl_ValidOrders.calls k _ _ l0 false _ ?side1 ?side2 A2.out).mono ?_); (case side1 => repeat (first | exact HR0.out | (with_reducible refine Kd.C_alloc ?_ _) | (with_reducible refine Kd.C_drewN ?_ _) | (with_reducible refine Kd.C_drew ?_))); (case side2 => exact HC0.out); rintro e w17 ⟨rfl, hb⟩; refine ⟨_, rfl, ?_⟩; have n0_ := Aside0.mk (below_step (by repeat (first | (with_reducible first | exact HB.out | apply below_alloc | apply pw_below_drewN | apply below_drew1) | exact HB.out)) hb); clear HB; have HB := n0_; clear n0_; (try clear hb); (try clear hb2); (try clear hk); (try clear hi)))
  go_ret2
  exact ⟨by first | rfl | (simp [errW_none, errW_some] <;> rfl) | (simp [*, errW_none, errW_some] <;> rfl), by repeat (first | (with_reducible first | exact HB.out | apply below_alloc | apply pw_below_drewN | apply below_drew1) | exact HB.out)⟩

/-! ### impl_loftCode: function 58 -/
def impl_loftCode.f (k : Nat) (l0 : List (S49)) (a1 : Int) (a2 : Int) : Option (Int) := (impl_ValidOrders.f k l0).bind fun t120 => (if t120 = true then ((impl_within.f a1 0 2000).bind fun t121 => (if t121 = true then ((impl_within.f a2 1 500).bind fun t122 => (if t122 = true then (some 0) else (some 2))) else (some 2))) else (some 1))
theorem impl_loftCode.mono : ∀ a0 a1 a2 k, LeO (impl_loftCode.f k a0 a1 a2) (impl_loftCode.f (k + 1) a0 a1 a2) := by
 intro a0 a1 a2 k
 unfold impl_loftCode.f
 repeat' first
   | (with_reducible exact impl_ValidOrders.mono _ _)
   | (with_reducible exact LeO.refl _)
   | (with_reducible exact LeO.none _)
   | (with_reducible refine LeO.ite ?_ ?_)
   | (with_reducible refine LeO.bind ?_ (fun _ => ?_))
   | exact impl_ValidOrders.mono _ _
   | exact LeO.none _
   | refine LeO.ite ?_ ?_
   | refine LeO.bind ?_ (fun _ => ?_)
set_option maxHeartbeats 8000000 in
set_option maxRecDepth 100000 in
theorem impl_loftCode.calls (k : Nat) (A0 : Option Addr) (c0 : Nat) (l0 : List (S49)) (a1 : Int) (a2 : Int) (r : Int) (w : World) (hr0 : Kd.C k49 w A0 l0.length l0) (hc0 : l0.length ≤ c0) (h : impl_loftCode.f k l0 a1 a2 = some r) :
  Calls Try.prog 58 #[.slice A0 l0.length c0, .int .i64 a1, .int .i64 a2] w fun e w' => e = .returned (.int .i64 r) ∧ Below w.heap.size w w' := by
 have HR0 := Aside0.mk hr0
 have HC0 := Aside0.mk hc0
 clear hr0 hc0
 have HB := Aside0.mk (Below.refl w.heap.size w)
 have H : ((impl_ValidOrders.f k l0).bind fun t120 => (if t120 = true then ((impl_within.f a1 0 2000).bind fun t121 => (if t121 = true then ((impl_within.f a2 1 500).bind fun t122 => (if t122 = true then (some 0) else (some 2))) else (some 2))) else (some 1))) = some r := h
 clear h
 replace H := Option.bind_eq_some_iff.mp H
 obtain ⟨t120, A40, H⟩ := H
 replace H : (if t120 = true then ((impl_within.f a1 0 2000).bind fun t121 => (if t121 = true then ((impl_within.f a2 1 500).bind fun t122 => (if t122 = true then (some 0) else (some 2))) else (some 2))) else (some 1)) = some r := H
 have A4 := Aside0.mk A40
 clear A40
 by_cases c5 : t120 = true
 ·subst c5
  have H1 : ((impl_within.f a1 0 2000).bind fun t121 => (if t121 = true then ((impl_within.f a2 1 500).bind fun t122 => (if t122 = true then (some 0) else (some 2))) else (some 2))) = some r := by rw [if_pos rfl] at H; exact H
  clear H
  have H := H1
  clear H1
  replace H := Option.bind_eq_some_iff.mp H
  obtain ⟨t121, A60, H⟩ := H
  replace H : (if t121 = true then ((impl_within.f a2 1 500).bind fun t122 => (if t122 = true then (some 0) else (some 2))) else (some 2)) = some r := H
  have A6 := Aside0.mk A60
  clear A60
  by_cases c7 : t121 = true
  ·subst c7
   have H1 : ((impl_within.f a2 1 500).bind fun t122 => (if t122 = true then (some 0) else (some 2))) = some r := by rw [if_pos rfl] at H; exact H
   clear H
   have H := H1
   clear H1
   replace H := Option.bind_eq_some_iff.mp H
   obtain ⟨t122, A80, H⟩ := H
   replace H : (if t122 = true then (some 0) else (some 2)) = some r := H
   have A8 := Aside0.mk A80
   clear A80
   by_cases c9 : t122 = true
   ·subst c9
    have H1 : (some 0) = some r := by rw [if_pos rfl] at H; exact H
    clear H
    have H := H1
    clear H1
    obtain rfl := Option.some.inj H
    go_enter Try.func58, Try.ntmps58
    go_wp2_with (first | ((with_reducible refine gate_callee (f := 16) rfl ?_); refine goesL_ (some 8) rfl rfl Try.func16 (by kernel_rfl) rfl #[.slice A0 l0.length c0] rfl (by (try simp only [List.map_toArray, List.map_cons, List.map_nil]); first | done | rfl | (simp only [List.length_drop, List.length_take]; rfl)) ?_; (with_reducible refine (impl_ValidOrders.calls k _ _ l0 true _ ?side1 ?side2 A4.out).mono ?_); (case side1 => repeat (first | exact HR0.out | (with_reducible refine Kd.C_alloc ?_ _) | (with_reducible refine Kd.C_drewN ?_ _) | (with_reducible refine Kd.C_drew ?_))); (case side2 => exact HC0.out); rintro e w10 ⟨rfl, hb⟩; refine ⟨_, rfl, ?_⟩; have n0_ := Aside0.mk (below_step (by repeat (first | (with_reducible first | exact HB.out | apply below_alloc | apply pw_below_drewN | apply below_drew1) | exact HB.out)) hb); clear HB; have HB := n0_; clear n0_; (try clear hb); (try clear hb2); (try clear hk); (try clear hi)) | ((with_reducible refine gate_callee (f := 51) rfl ?_); refine goesL_ (some 11) rfl rfl Try.func51 (by kernel_rfl) rfl #[.int .i64 a1, .int .i64 0, .int .i64 2000] rfl (by (try simp only [List.map_toArray, List.map_cons, List.map_nil]); first | done | rfl | (simp only [List.length_drop, List.length_take]; rfl)) ?_; (with_reducible refine (impl_within.calls a1 0 2000 true _ A6.out).mono ?_); rintro e w' ⟨rfl, ⟨nd, rfl⟩⟩; refine ⟨_, rfl, ?_⟩) | (go_at_call 51; (with_reducible refine (impl_within.calls a2 1 500 true _ A8.out).mono ?_); rintro e w' ⟨rfl, ⟨nd, rfl⟩⟩))
    go_ret
    exact ⟨by first | rfl | (simp [errW_none, errW_some] <;> rfl) | (simp [*, errW_none, errW_some] <;> rfl), by repeat (first | (with_reducible first | exact HB.out | apply below_alloc | apply pw_below_drewN | apply below_drew1) | exact HB.out)⟩
   ·replace c9 := Bool.eq_false_iff.mpr c9
    subst c9
    have H1 : (some 2) = some r := by rw [if_neg (show ¬ (false = true) by decide)] at H; exact H
    clear H
    have H := H1
    clear H1
    obtain rfl := Option.some.inj H
    go_enter Try.func58, Try.ntmps58
    go_wp2_with (first | ((with_reducible refine gate_callee (f := 16) rfl ?_); refine goesL_ (some 8) rfl rfl Try.func16 (by kernel_rfl) rfl #[.slice A0 l0.length c0] rfl (by (try simp only [List.map_toArray, List.map_cons, List.map_nil]); first | done | rfl | (simp only [List.length_drop, List.length_take]; rfl)) ?_; (with_reducible refine (impl_ValidOrders.calls k _ _ l0 true _ ?side1 ?side2 A4.out).mono ?_); (case side1 => repeat (first | exact HR0.out | (with_reducible refine Kd.C_alloc ?_ _) | (with_reducible refine Kd.C_drewN ?_ _) | (with_reducible refine Kd.C_drew ?_))); (case side2 => exact HC0.out); rintro e w11 ⟨rfl, hb⟩; refine ⟨_, rfl, ?_⟩; have n0_ := Aside0.mk (below_step (by repeat (first | (with_reducible first | exact HB.out | apply below_alloc | apply pw_below_drewN | apply below_drew1) | exact HB.out)) hb); clear HB; have HB := n0_; clear n0_; (try clear hb); (try clear hb2); (try clear hk); (try clear hi)) | ((with_reducible refine gate_callee (f := 51) rfl ?_); refine goesL_ (some 11) rfl rfl Try.func51 (by kernel_rfl) rfl #[.int .i64 a1, .int .i64 0, .int .i64 2000] rfl (by (try simp only [List.map_toArray, List.map_cons, List.map_nil]); first | done | rfl | (simp only [List.length_drop, List.length_take]; rfl)) ?_; (with_reducible refine (impl_within.calls a1 0 2000 true _ A6.out).mono ?_); rintro e w' ⟨rfl, ⟨nd, rfl⟩⟩; refine ⟨_, rfl, ?_⟩) | (go_at_call 51; (with_reducible refine (impl_within.calls a2 1 500 false _ A8.out).mono ?_); rintro e w' ⟨rfl, ⟨nd, rfl⟩⟩))
    go_ret
    exact ⟨by first | rfl | (simp [errW_none, errW_some] <;> rfl) | (simp [*, errW_none, errW_some] <;> rfl), by repeat (first | (with_reducible first | exact HB.out | apply below_alloc | apply pw_below_drewN | apply below_drew1) | exact HB.out)⟩
  ·replace c7 := Bool.eq_false_iff.mpr c7
   subst c7
   have H1 : (some 2) = some r := by rw [if_neg (show ¬ (false = true) by decide)] at H; exact H
   clear H
   have H := H1
   clear H1
   obtain rfl := Option.some.inj H
   go_enter Try.func58, Try.ntmps58
   go_wp2_with (first | ((with_reducible refine gate_callee (f := 16) rfl ?_); refine goesL_ (some 8) rfl rfl Try.func16 (by kernel_rfl) rfl #[.slice A0 l0.length c0] rfl (by (try simp only [List.map_toArray, List.map_cons, List.map_nil]); first | done | rfl | (simp only [List.length_drop, List.length_take]; rfl)) ?_; (with_reducible refine (impl_ValidOrders.calls k _ _ l0 true _ ?side1 ?side2 A4.out).mono ?_); (case side1 => repeat (first | exact HR0.out | (with_reducible refine Kd.C_alloc ?_ _) | (with_reducible refine Kd.C_drewN ?_ _) | (with_reducible refine Kd.C_drew ?_))); (case side2 => exact HC0.out); rintro e w12 ⟨rfl, hb⟩; refine ⟨_, rfl, ?_⟩; have n0_ := Aside0.mk (below_step (by repeat (first | (with_reducible first | exact HB.out | apply below_alloc | apply pw_below_drewN | apply below_drew1) | exact HB.out)) hb); clear HB; have HB := n0_; clear n0_; (try clear hb); (try clear hb2); (try clear hk); (try clear hi)) | ((with_reducible refine gate_callee (f := 51) rfl ?_); refine goesL_ (some 11) rfl rfl Try.func51 (by kernel_rfl) rfl #[.int .i64 a1, .int .i64 0, .int .i64 2000] rfl (by (try simp only [List.map_toArray, List.map_cons, List.map_nil]); first | done | rfl | (simp only [List.length_drop, List.length_take]; rfl)) ?_; (with_reducible refine (impl_within.calls a1 0 2000 false _ A6.out).mono ?_); rintro e w' ⟨rfl, ⟨nd, rfl⟩⟩; refine ⟨_, rfl, ?_⟩))
   go_ret
   exact ⟨by first | rfl | (simp [errW_none, errW_some] <;> rfl) | (simp [*, errW_none, errW_some] <;> rfl), by repeat (first | (with_reducible first | exact HB.out | apply below_alloc | apply pw_below_drewN | apply below_drew1) | exact HB.out)⟩
 ·replace c5 := Bool.eq_false_iff.mpr c5
  subst c5
  have H1 : (some 1) = some r := by rw [if_neg (show ¬ (false = true) by decide)] at H; exact H
  clear H
  have H := H1
  clear H1
  obtain rfl := Option.some.inj H
  go_enter Try.func58, Try.ntmps58
  go_wp2_with (first | ((with_reducible refine gate_callee (f := 16) rfl ?_); refine goesL_ (some 8) rfl rfl Try.func16 (by kernel_rfl) rfl #[.slice A0 l0.length c0] rfl (by (try simp only [List.map_toArray, List.map_cons, List.map_nil]); first | done | rfl | (simp only [List.length_drop, List.length_take]; rfl)) ?_; (with_reducible refine (impl_ValidOrders.calls k _ _ l0 false _ ?side1 ?side2 A4.out).mono ?_); (case side1 => repeat (first | exact HR0.out | (with_reducible refine Kd.C_alloc ?_ _) | (with_reducible refine Kd.C_drewN ?_ _) | (with_reducible refine Kd.C_drew ?_))); (case side2 => exact HC0.out); rintro e w13 ⟨rfl, hb⟩; refine ⟨_, rfl, ?_⟩; have n0_ := Aside0.mk (below_step (by repeat (first | (with_reducible first | exact HB.out | apply below_alloc | apply pw_below_drewN | apply below_drew1) | exact HB.out)) hb); clear HB; have HB := n0_; clear n0_; (try clear hb); (try clear hb2); (try clear hk); (try clear hi)))
  go_ret
  exact ⟨by first | rfl | (simp [errW_none, errW_some] <;> rfl) | (simp [*, errW_none, errW_some] <;> rfl), by repeat (first | (with_reducible first | exact HB.out | apply below_alloc | apply pw_below_drewN | apply below_drew1) | exact HB.out)⟩

/-! ### impl_daysOfOrders: function 62 -/
def impl_daysOfOrders.l0 : Nat → List (S49) → Int → Int → List Int → Int → List Int → Int → Int → Option (List Int)
 | 0, _, _, _, _, _, _, _, _ => none
 | k + 1, x0, x1, x2, x7, x8, x16, x17, x18 => if x18 < x17 then (if 0 ≤ x18 then (if x18 < (x16.length : Int) then (if 0 ≤ (rd x16 x18) then (if (rd x16 x18) < (x7.length : Int) then ((some (x7.set ((rd x16 x18) : Int).toNat x1 : List Int)).bind fun y130 => (if (rd x16 x18) < (x0.length : Int) then ((impl_hoursLeft.f ((rd_T49 x0 (rd x16 x18)).f0) ((rd_T49 x0 (rd x16 x18)).f1) ((rd_T49 x0 (rd x16 x18)).f2) ((rd_T49 x0 (rd x16 x18)).f3) ((rd_T49 x0 (rd x16 x18)).f4)).bind fun t132 => (if t132 > 0 then (if x2 = 0 then (none) else (impl_daysOfOrders.l0 k x0 x1 x2 (y130.set ((rd x16 x18) : Int).toNat (wrap64 (x1 + (wrap64 (Int.tdiv (wrap64 ((wrap64 (x8 + t132)) - 1)) x2))))) (wrap64 (x8 + t132)) x16 x17 (wrap64 (x18 + 1)))) else (impl_daysOfOrders.l0 k x0 x1 x2 y130 x8 x16 x17 (wrap64 (x18 + 1))))) else (none))) else (none)) else (none)) else (none)) else (none)) else (some x7)
def impl_daysOfOrders.f (k : Nat) (l0 : List (S49)) (a1 : Int) (a2 : Int) : Option (List Int) := if 0 ≤ (l0.length : Int) then (if ((l0.length : Int) : Int).toNat ≤ 35184372088832 then ((impl_workOrder.f l0).bind fun t126 => (impl_daysOfOrders.l0 k l0 a1 a2 (List.replicate ((l0.length : Int) : Int).toNat 0) 0 t126 (t126.length : Int) 0)) else (none)) else (none)
theorem impl_daysOfOrders.mono_l : ∀ k, (∀ y0 y1 y2 y3 y4 y5 y6 y7, LeO (impl_daysOfOrders.l0 k y0 y1 y2 y3 y4 y5 y6 y7) (impl_daysOfOrders.l0 (k + 1) y0 y1 y2 y3 y4 y5 y6 y7))
 | 0 => fun _ _ _ _ _ _ _ _ r h => by simp [impl_daysOfOrders.l0] at h
 | k + 1 => by
  have ih0 := impl_daysOfOrders.mono_l k
  ·intro y0 y1 y2 y3 y4 y5 y6 y7
   unfold impl_daysOfOrders.l0
   repeat' first
   | (with_reducible exact ih0 _ _ _ _ _ _ _ _)
   | (with_reducible exact LeO.refl _)
   | (with_reducible exact LeO.none _)
   | (with_reducible refine LeO.ite ?_ ?_)
   | (with_reducible refine LeO.bind ?_ (fun _ => ?_))
   | exact ih0 _ _ _ _ _ _ _ _
   | exact LeO.none _
   | refine LeO.ite ?_ ?_
   | refine LeO.bind ?_ (fun _ => ?_)
theorem impl_daysOfOrders.mono : ∀ a0 a1 a2 k, LeO (impl_daysOfOrders.f k a0 a1 a2) (impl_daysOfOrders.f (k + 1) a0 a1 a2) := by
 intro a0 a1 a2 k
 have ih0 := impl_daysOfOrders.mono_l k
 unfold impl_daysOfOrders.f
 repeat' first
   | (with_reducible exact ih0 _ _ _ _ _ _ _ _)
   | (with_reducible exact LeO.refl _)
   | (with_reducible exact LeO.none _)
   | (with_reducible refine LeO.ite ?_ ?_)
   | (with_reducible refine LeO.bind ?_ (fun _ => ?_))
   | exact ih0 _ _ _ _ _ _ _ _
   | exact LeO.none _
   | refine LeO.ite ?_ ?_
   | refine LeO.bind ?_ (fun _ => ?_)
set_option maxHeartbeats 8000000 in
set_option maxRecDepth 100000 in
theorem impl_daysOfOrders.calls (k : Nat) (A0 : Option Addr) (c0 : Nat) (l0 : List (S49)) (a1 : Int) (a2 : Int) (r : List Int) (w : World) (hr0 : Kd.C k49 w A0 l0.length l0) (hc0 : l0.length ≤ c0) (h : impl_daysOfOrders.f k l0 a1 a2 = some r) :
  Calls Try.prog 62 #[.slice A0 l0.length c0, .int .i64 a1, .int .i64 a2] w fun e w' => ∃ v0_ : Value, e = .returned (v0_) ∧ Kd.R (Kd.int .i64) 2 w' w.heap.size (fun _ => True) v0_ r ∧ Below w.heap.size w w' := by
 have hu49 := Try.underlying49
 have HR0 := Aside0.mk hr0
 have HC0 := Aside0.mk hc0
 clear hr0 hc0
 have HB := Aside0.mk (Below.refl w.heap.size w)
 have H : (if 0 ≤ (l0.length : Int) then (if ((l0.length : Int) : Int).toNat ≤ 35184372088832 then ((impl_workOrder.f l0).bind fun t126 => (impl_daysOfOrders.l0 k l0 a1 a2 (List.replicate ((l0.length : Int) : Int).toNat 0) 0 t126 (t126.length : Int) 0)) else (none)) else (none)) = some r := h
 clear h
 by_cases c4 : 0 ≤ (l0.length : Int)
 ·rw [if_pos c4] at H
  have c4b0 := eq_true c4
  have c4b1 : decide (0 ≤ (l0.length : Int)) = true := decide_eq_true c4
  clear c4
  by_cases c5 : ((l0.length : Int) : Int).toNat ≤ 35184372088832
  ·rw [if_pos c5] at H
   have c5b0 := eq_true c5
   have c5b1 : decide (((l0.length : Int) : Int).toNat ≤ 35184372088832) = true := decide_eq_true c5
   clear c5
   obtain ⟨y123, hy123⟩ : ∃ y_ : List Int, y_ = (List.replicate ((l0.length : Int) : Int).toNat 0) := ⟨_, rfl⟩
   replace H : ((impl_workOrder.f l0).bind fun t126 => (impl_daysOfOrders.l0 k l0 a1 a2 y123 0 t126 (t126.length : Int) 0)) = some r := by first | (rw [hy123]; with_reducible exact H) | (have H2_ := (Option.bind_some _ _).symm.trans H; rw [hy123]; with_reducible exact H2_) | (have H2_ := (Option.bind_some _ _).symm.trans H; with_reducible exact H2_) | with_reducible exact H | (rw [hy123]; exact H) | exact H
   have Ny123 := Aside0.mk hy123
   clear hy123
   replace H := Option.bind_eq_some_iff.mp H
   obtain ⟨t126, A60, H⟩ := H
   replace H : (impl_daysOfOrders.l0 k l0 a1 a2 y123 0 t126 (t126.length : Int) 0) = some r := H
   have A6 := Aside0.mk A60
   clear A60
   have H' := Aside0.mk H
   clear H
   go_enter Try.func62, Try.ntmps62
   go_wp2_with (first | ((with_reducible refine gate_dst (N := 14) rfl ?_); refine Kd.R_make (Kd.int .i64) _ 2 rfl (N := 14) rfl 35 _ _ rfl (l0.length : Int) rfl rfl Try.underlying35 (.int .i64 0) 8 info2 rfl (by decide) (by omega) 0 (ok := fun _ => True) (okp := fun _ => True) rfl (fun _ hk => hk) trivial (of_decide_eq_true (by first | (with_reducible assumption) | assumption)) (Nat.le_trans (Nat.mul_le_mul_right _ (of_decide_eq_true (by first | (with_reducible assumption) | assumption) : (l0.length : Int).toNat ≤ 35184372088832)) (by omega)) (Below.refl _ _) (Nat.le_refl _) ?_; intro v124 w7 ho8 hb hg_ hnew_; clear hg_ hnew_; (first | rw [← Ny123.out] at ho8 | (simp only [Int.reduceToNat] at ho8; rw [← Ny123.out] at ho8)); have n0_ := Aside0.mk (Kd.R_lower ho8 (below_size (by repeat (first | (with_reducible first | exact HB.out | apply below_alloc | apply pw_below_drewN | apply below_drew1) | exact HB.out)))); have n1_ := Aside0.mk (below_step (by repeat (first | (with_reducible first | exact HB.out | apply below_alloc | apply pw_below_drewN | apply below_drew1) | exact HB.out)) hb); clear HB; have HO125 := n0_; have HB := n1_; clear n0_ n1_; clear hb ho8) | ((with_reducible refine gate_callee (f := 55) rfl ?_); refine goesL_ (some 16) rfl rfl Try.func55 (by kernel_rfl) rfl #[.slice A0 l0.length c0] rfl (by (try simp only [List.map_toArray, List.map_cons, List.map_nil]); first | done | rfl | (simp only [List.length_drop, List.length_take]; rfl)) ?_; (with_reducible refine (impl_workOrder.calls _ _ l0 t126 _ ?side1 ?side2 A6.out).mono ?_); (case side1 => repeat (first | exact (Kd.C_below HR0.out HB.out) | (with_reducible refine Kd.C_alloc ?_ _) | (with_reducible refine Kd.C_drewN ?_ _) | (with_reducible refine Kd.C_drew ?_))); (case side2 => exact HC0.out); rintro e w9 ⟨v127, rfl, ho0, hb⟩; refine ⟨_, rfl, ?_⟩; have n0_ := Aside0.mk (Kd.R_below (by (with_reducible repeat (first | apply Kd.R_alloc | apply Kd.R_drewN | apply Kd.R_drew)); exact HO125.out) hb); have n1_ := Aside0.mk (Kd.R_lower ho0 (below_size (by repeat (first | (with_reducible first | exact HB.out | apply below_alloc | apply pw_below_drewN | apply below_drew1) | exact HB.out)))); have n2_ := Aside0.mk (below_step (by repeat (first | (with_reducible first | exact HB.out | apply below_alloc | apply pw_below_drewN | apply below_drew1) | exact HB.out)) hb); clear HO125; clear HB; have HO125 := n0_; have HO128 := n1_; have HB := n2_; clear n0_ n1_ n2_; (try clear hb); (try clear hb2); (try clear hk); (try clear hi); (try clear ho0); obtain ⟨Ao10, co10, eo10⟩ := Kd.R_slice HO128.out; subst eo10))
   go_loopg [8, 18] k (fun kq v8 v18 w' => ∃ (x7_1 : List Int) (x8_1 : Int) (x18_1 : Int), v8 = .int .i64 x8_1 ∧ v18 = .int .i64 x18_1 ∧ Aside0 (impl_daysOfOrders.l0 kq l0 a1 a2 x7_1 x8_1 t126 (t126.length : Int) x18_1 = some r) ∧ Aside0 (kq ≤ k) ∧ Aside0 (Kd.R (Kd.int .i64) 2 w' w.heap.size (fun _ => True) v124 x7_1) ∧ Aside0 (Kd.R (Kd.int .i64) 3 w' w.heap.size (fun _ => True) (.slice Ao10 t126.length co10) t126) ∧ Aside0 (Below w.heap.size w w'))
   case atStart => exact ⟨(y123), (0), (0), (by first | rfl | (simp; done) | (simp [*]; done)), (by first | rfl | (simp; done) | (simp [*]; done)), H', ⟨Nat.le_refl _⟩, ⟨by (with_reducible repeat (first | apply Kd.R_alloc | apply Kd.R_drewN | apply Kd.R_drew)); exact HO125.out⟩, ⟨by (with_reducible repeat (first | apply Kd.R_alloc | apply Kd.R_drewN | apply Kd.R_drew)); exact HO128.out⟩, ⟨by repeat (first | (with_reducible first | exact HB.out | apply below_alloc | apply pw_below_drewN | apply below_drew1) | exact HB.out)⟩⟩
   case round =>
    clear H'
    (try clear p2);(try clear c4);(try clear c4b0);(try clear c4b1);(try clear c5);(try clear c5b0);(try clear c5b1);(try clear c6)
    obtain ⟨x7_1, x8_1, x18_1, rfl, rfl, HA, HK1, HO_7, HO_16, HB⟩ := hrel
    cases gk with
    | zero => exact absurd HA.out (by simp [impl_daysOfOrders.l0])
    | succ k1 =>
     have H := HA.out
     clear HA
     simp only [impl_daysOfOrders.l0] at H
     by_cases c11 : x18_1 < (t126.length : Int)
     ·rw [if_pos c11] at H
      have c11b0 : decide (x18_1 < (t126.length : Int)) = true := decide_eq_true c11
      clear c11
      by_cases c12 : 0 ≤ x18_1
      ·rw [if_pos c12] at H
       have c12b0 : decide (0 ≤ x18_1) = true := decide_eq_true c12
       clear c12
       by_cases c13 : x18_1 < (t126.length : Int)
       ·rw [if_pos c13] at H
        have c13b0 : decide (x18_1 < (t126.length : Int)) = true := decide_eq_true c13
        clear c13
        by_cases c14 : 0 ≤ (rd t126 x18_1)
        ·rw [if_pos c14] at H
         have c14b0 : decide (0 ≤ (rd t126 x18_1)) = true := decide_eq_true c14
         clear c14
         by_cases c15 : (rd t126 x18_1) < (x7_1.length : Int)
         ·rw [if_pos c15] at H
          have c15b0 : decide ((rd t126 x18_1) < (x7_1.length : Int)) = true := decide_eq_true c15
          clear c15
          obtain ⟨y130, hy130⟩ : ∃ y_ : List Int, y_ = (x7_1.set ((rd t126 x18_1) : Int).toNat a1) := ⟨_, rfl⟩
          replace H : (if (rd t126 x18_1) < (l0.length : Int) then ((impl_hoursLeft.f ((rd_T49 l0 (rd t126 x18_1)).f0) ((rd_T49 l0 (rd t126 x18_1)).f1) ((rd_T49 l0 (rd t126 x18_1)).f2) ((rd_T49 l0 (rd t126 x18_1)).f3) ((rd_T49 l0 (rd t126 x18_1)).f4)).bind fun t132 => (if t132 > 0 then (if a2 = 0 then (none) else (impl_daysOfOrders.l0 k1 l0 a1 a2 (y130.set ((rd t126 x18_1) : Int).toNat (wrap64 (a1 + (wrap64 (Int.tdiv (wrap64 ((wrap64 (x8_1 + t132)) - 1)) a2))))) (wrap64 (x8_1 + t132)) t126 (t126.length : Int) (wrap64 (x18_1 + 1)))) else (impl_daysOfOrders.l0 k1 l0 a1 a2 y130 x8_1 t126 (t126.length : Int) (wrap64 (x18_1 + 1))))) else (none)) = some r := by first | (rw [hy130]; with_reducible exact H) | (have H2_ := (Option.bind_some _ _).symm.trans H; rw [hy130]; with_reducible exact H2_) | (have H2_ := (Option.bind_some _ _).symm.trans H; with_reducible exact H2_) | with_reducible exact H | (rw [hy130]; exact H) | exact H
          have Ny130 := Aside0.mk hy130
          clear hy130
          by_cases c17 : (rd t126 x18_1) < (l0.length : Int)
          ·rw [if_pos c17] at H
           have c17b0 : decide ((rd t126 x18_1) < (l0.length : Int)) = true := decide_eq_true c17
           clear c17
           replace H := Option.bind_eq_some_iff.mp H
           obtain ⟨t132, A180, H⟩ := H
           replace H : (if t132 > 0 then (if a2 = 0 then (none) else (impl_daysOfOrders.l0 k1 l0 a1 a2 (y130.set ((rd t126 x18_1) : Int).toNat (wrap64 (a1 + (wrap64 (Int.tdiv (wrap64 ((wrap64 (x8_1 + t132)) - 1)) a2))))) (wrap64 (x8_1 + t132)) t126 (t126.length : Int) (wrap64 (x18_1 + 1)))) else (impl_daysOfOrders.l0 k1 l0 a1 a2 y130 x8_1 t126 (t126.length : Int) (wrap64 (x18_1 + 1)))) = some r := H
           have A18 := Aside0.mk A180
           clear A180
           by_cases c19 : t132 > 0
           ·rw [if_pos c19] at H
            have c19b0 : decide (0 < t132) = true := decide_eq_true c19
            clear c19
            by_cases c20 : a2 = 0
            ·rw [if_pos c20] at H
             exact absurd H (by simp)
            ·rw [if_neg c20] at H
             have c20b0 : (a2 == 0) = false := beq_eq_false_iff_ne.mpr c20
             have c20b1 : (a2 != 0) = true := bne_iff_ne.mpr c20
             obtain ⟨y133, hy133⟩ : ∃ y_ : List Int, y_ = (y130.set ((rd t126 x18_1) : Int).toNat (wrap64 (a1 + (wrap64 (Int.tdiv (wrap64 ((wrap64 (x8_1 + t132)) - 1)) a2))))) := ⟨_, rfl⟩
             replace H : (impl_daysOfOrders.l0 k1 l0 a1 a2 y133 (wrap64 (x8_1 + t132)) t126 (t126.length : Int) (wrap64 (x18_1 + 1))) = some r := by first | (rw [hy133]; with_reducible exact H) | (have H2_ := (Option.bind_some _ _).symm.trans H; rw [hy133]; with_reducible exact H2_) | (have H2_ := (Option.bind_some _ _).symm.trans H; with_reducible exact H2_) | with_reducible exact H | (rw [hy133]; exact H) | exact H
             have Ny133 := Aside0.mk hy133
             clear hy133
             have H' := Aside0.mk H
             clear H
             have p129 : 0 ≤ (x18_1 : Int) := of_decide_eq_true (by first | (with_reducible assumption) | assumption)
             have q129 : x18_1 < (t126.length : Int) := of_decide_eq_true (by first | (with_reducible assumption) | assumption)
             obtain ⟨ad129, e129, hx129_0⟩ := Kd.at_int (Kd.R_reads' HO_16.out).2.2 x18_1 p129 q129
             cases e129
             replace p129 := eq_true p129
             replace q129 := eq_true q129
             have p16 : 0 ≤ ((rd t126 x18_1) : Int) := of_decide_eq_true (by first | (with_reducible assumption) | assumption)
             have q16 : ((rd t126 x18_1) : Int) < ((x7_1.length : Int) : Int) := of_decide_eq_true (by first | (with_reducible assumption) | assumption)
             obtain ⟨go16, co16, eo16, gb16, gl16, cl16, HG16⟩ := Kd.R_form HO_7.out (by omega)
             (first | cases eo16 | (injection eo16 with ea_ en_ ec_; (first | subst ea_ | (injection ea_ with ea_; subst ea_)); subst ec_; clear en_))
             have GB16 := Aside0.mk gb16
             have GG16 := Aside0.mk HG16
             clear gb16 gl16 HG16
             obtain ⟨hx16_0, hf16_0⟩ := Kd.R_celln 0 HO_7.out ((rd t126 x18_1) : Int) p16 q16
             replace p16 := eq_true p16
             replace q16 := eq_true q16
             have HP22 := Kd.R_putg HO_7.out ((rd t126 x18_1) : Int) a1
             go_wp2_with (first | ((with_reducible refine gate_store (t := 2) (p := 25) rfl ?_); refine store_event (t := 2) (p := 25) (v := ?vo_w23) (w1 := (wr.setCell ⟨go16, ((rd t126 x18_1) : Int).toNat, none⟩ (.int .i64 a1))) ?hg ?ho ?hn ?hr ?_; (case ho => rfl); (case hg => rfl); (case hn => rfl); (case hr => first | (go_simp; done) | (go_simp; rfl)); intro w23 hw; have hg : wr.grownBy w23 (some go16) := (by rw [hw]; exact HP22.2); have hp_ : Kd.R (Kd.int .i64) 2 w23 w.heap.size (fun _ => True) (.slice (some ⟨go16, 0, none⟩) x7_1.length co16) y130 := (by rw [hw, Ny130.out]; exact HP22.1); clear HP22; have n0_ := Aside0.mk (hp_); have n1_ := Aside0.mk (Kd.R_over' (v := (.slice (some ⟨go16, 0, none⟩) x7_1.length co16)) (by (with_reducible repeat (first | apply Kd.R_alloc | apply Kd.R_drewN | apply Kd.R_drew)); exact HO_16.out) (Kd.R_typed HO_7.out) (by decide) hg); have n2_ := Aside0.mk ((by rw [hw]; exact below_set (HB.out) GB16.out : Below w.heap.size w w23)); clear HO_7; clear HO_16; clear HB; have HO_7 := n0_; have HO_16 := n1_; have HB := n2_; clear n0_ n1_ n2_; clear hg hw hp_; have p131 : 0 ≤ ((rd t126 x18_1) : Int) := of_decide_eq_true (by first | (with_reducible assumption) | assumption); have q131 : (rd t126 x18_1) < (l0.length : Int) := of_decide_eq_true (by first | (with_reducible assumption) | assumption); obtain ⟨ad131, e131, hx131_0, hx131_1, hx131_2, hx131_3, hx131_4⟩ := at_T49 HR0.out (rd t126 x18_1) p131 q131; cases e131; replace hx131_0 := (HB.out.cell (World.block_lt_of_cell? w _ hx131_0)).trans hx131_0; replace hx131_1 := (HB.out.cell (World.block_lt_of_cell? w _ hx131_1)).trans hx131_1; replace hx131_2 := (HB.out.cell (World.block_lt_of_cell? w _ hx131_2)).trans hx131_2; replace hx131_3 := (HB.out.cell (World.block_lt_of_cell? w _ hx131_3)).trans hx131_3; replace hx131_4 := (HB.out.cell (World.block_lt_of_cell? w _ hx131_4)).trans hx131_4; replace p131 := eq_true p131; replace q131 := eq_true q131) | ((with_reducible refine gate_callee (f := 47) rfl ?_); refine goesL_ (some 30) rfl rfl Try.func47 (by kernel_rfl) rfl #[.agg #[.int .i64 ((rd_T49 l0 (rd t126 x18_1)).f0), .string ((rd_T49 l0 (rd t126 x18_1)).f1), .int .i64 ((rd_T49 l0 (rd t126 x18_1)).f2), .int .i64 ((rd_T49 l0 (rd t126 x18_1)).f3), .int .i64 ((rd_T49 l0 (rd t126 x18_1)).f4)]] rfl (by (try simp only [List.map_toArray, List.map_cons, List.map_nil]); first | done | rfl | (simp only [List.length_drop, List.length_take]; rfl)) ?_; (with_reducible refine (impl_hoursLeft.calls ((rd_T49 l0 (rd t126 x18_1)).f0) ((rd_T49 l0 (rd t126 x18_1)).f1) ((rd_T49 l0 (rd t126 x18_1)).f2) ((rd_T49 l0 (rd t126 x18_1)).f3) ((rd_T49 l0 (rd t126 x18_1)).f4) t132 _ A18.out).mono ?_); rintro e w24 ⟨rfl, hb⟩; refine ⟨_, rfl, ?_⟩; have n0_ := Aside0.mk (Kd.R_below (by (with_reducible repeat (first | apply Kd.R_alloc | apply Kd.R_drewN | apply Kd.R_drew)); exact HO_7.out) hb); have n1_ := Aside0.mk (Kd.R_below (by (with_reducible repeat (first | apply Kd.R_alloc | apply Kd.R_drewN | apply Kd.R_drew)); exact HO_16.out) hb); have n2_ := Aside0.mk (below_step (by repeat (first | (with_reducible first | exact HB.out | apply below_alloc | apply pw_below_drewN | apply below_drew1) | exact HB.out)) hb); clear HO_7; clear HO_16; clear HB; have HO_7 := n0_; have HO_16 := n1_; have HB := n2_; clear n0_ n1_ n2_; (try clear hb); (try clear hb2); (try clear hk); (try clear hi); have p21 : 0 ≤ ((rd t126 x18_1) : Int) := of_decide_eq_true (by first | (with_reducible assumption) | assumption); have q21 : ((rd t126 x18_1) : Int) < ((x7_1.length : Int) : Int) := of_decide_eq_true (by first | (with_reducible assumption) | assumption); obtain ⟨hx21_0, hf21_0⟩ := Kd.R_celln 0 HO_7.out ((rd t126 x18_1) : Int) p21 q21; replace p21 := eq_true p21; replace q21 := eq_true q21; obtain ⟨hy25_, hz25_⟩ := Kd.R_celln 0 HO_7.out ((rd t126 x18_1) : Int) (of_decide_eq_true (by first | (with_reducible assumption) | assumption)) (of_decide_eq_true (by first | (with_reducible assumption) | assumption)); have HP25 := Kd.R_putg HO_7.out ((rd t126 x18_1) : Int) (wrap64 (a1 + (wrap64 (Int.tdiv (wrap64 ((wrap64 (x8_1 + t132)) - 1)) a2))))) | ((with_reducible refine gate_store (t := 2) (p := 44) rfl ?_); refine store_event (t := 2) (p := 44) (v := ?vo_w26) (w1 := (w24.setCell ⟨go16, ((rd t126 x18_1) : Int).toNat, none⟩ (.int .i64 (wrap64 (a1 + (wrap64 (Int.tdiv (wrap64 ((wrap64 (x8_1 + t132)) - 1)) a2))))))) ?hg ?ho ?hn ?hr ?_; (case ho => rfl); (case hg => rfl); (case hn => rfl); (case hr => first | (go_simp; done) | (go_simp; rfl)); intro w26 hw; have hg : w24.grownBy w26 (some go16) := (by rw [hw]; exact HP25.2); have hp_ : Kd.R (Kd.int .i64) 2 w26 w.heap.size (fun _ => True) (.slice (some ⟨go16, 0, none⟩) x7_1.length co16) y133 := (by rw [hw, Ny133.out]; exact HP25.1); clear HP25; have n0_ := Aside0.mk (hp_); have n1_ := Aside0.mk (Kd.R_over' (v := (.slice (some ⟨go16, 0, none⟩) x7_1.length co16)) (by (with_reducible repeat (first | apply Kd.R_alloc | apply Kd.R_drewN | apply Kd.R_drew)); exact HO_16.out) (Kd.R_typed HO_7.out) (by decide) hg); have n2_ := Aside0.mk ((by rw [hw]; exact below_set (HB.out) GB16.out : Below w.heap.size w w26)); clear HO_7; clear HO_16; clear HB; have HO_7 := n0_; have HO_16 := n1_; have HB := n2_; clear n0_ n1_ n2_; clear hg hw hp_))
             go_roundg k1
             case measure => have := HK1.out; omega
             case rel => exact ⟨(y133), (wrap64 (x8_1 + t132)), (wrap64 (x18_1 + 1)), (by first | rfl | (simp; done) | (simp [*]; done)), (by first | rfl | (simp; done) | (simp [*]; done)), H', ⟨by have := HK1.out; omega⟩, ⟨by (with_reducible repeat (first | apply Kd.R_alloc | apply Kd.R_drewN | apply Kd.R_drew)); exact HO_7.out⟩, ⟨by (with_reducible repeat (first | apply Kd.R_alloc | apply Kd.R_drewN | apply Kd.R_drew)); exact HO_16.out⟩, ⟨by repeat (first | (with_reducible first | exact HB.out | apply below_alloc | apply pw_below_drewN | apply below_drew1) | exact HB.out)⟩⟩
           ·rw [if_neg c19] at H
            have c19b0 : decide (0 < t132) = false := decide_eq_false c19
            clear c19
            have H' := Aside0.mk H
            clear H
            have p129 : 0 ≤ (x18_1 : Int) := of_decide_eq_true (by first | (with_reducible assumption) | assumption)
            have q129 : x18_1 < (t126.length : Int) := of_decide_eq_true (by first | (with_reducible assumption) | assumption)
            obtain ⟨ad129, e129, hx129_0⟩ := Kd.at_int (Kd.R_reads' HO_16.out).2.2 x18_1 p129 q129
            cases e129
            replace p129 := eq_true p129
            replace q129 := eq_true q129
            have p16 : 0 ≤ ((rd t126 x18_1) : Int) := of_decide_eq_true (by first | (with_reducible assumption) | assumption)
            have q16 : ((rd t126 x18_1) : Int) < ((x7_1.length : Int) : Int) := of_decide_eq_true (by first | (with_reducible assumption) | assumption)
            obtain ⟨go16, co16, eo16, gb16, gl16, cl16, HG16⟩ := Kd.R_form HO_7.out (by omega)
            (first | cases eo16 | (injection eo16 with ea_ en_ ec_; (first | subst ea_ | (injection ea_ with ea_; subst ea_)); subst ec_; clear en_))
            have GB16 := Aside0.mk gb16
            have GG16 := Aside0.mk HG16
            clear gb16 gl16 HG16
            obtain ⟨hx16_0, hf16_0⟩ := Kd.R_celln 0 HO_7.out ((rd t126 x18_1) : Int) p16 q16
            replace p16 := eq_true p16
            replace q16 := eq_true q16
            have HP27 := Kd.R_putg HO_7.out ((rd t126 x18_1) : Int) a1
            go_wp2_with (first | ((with_reducible refine gate_store (t := 2) (p := 25) rfl ?_); refine store_event (t := 2) (p := 25) (v := ?vo_w28) (w1 := (wr.setCell ⟨go16, ((rd t126 x18_1) : Int).toNat, none⟩ (.int .i64 a1))) ?hg ?ho ?hn ?hr ?_; (case ho => rfl); (case hg => rfl); (case hn => rfl); (case hr => first | (go_simp; done) | (go_simp; rfl)); intro w28 hw; have hg : wr.grownBy w28 (some go16) := (by rw [hw]; exact HP27.2); have hp_ : Kd.R (Kd.int .i64) 2 w28 w.heap.size (fun _ => True) (.slice (some ⟨go16, 0, none⟩) x7_1.length co16) y130 := (by rw [hw, Ny130.out]; exact HP27.1); clear HP27; have n0_ := Aside0.mk (hp_); have n1_ := Aside0.mk (Kd.R_over' (v := (.slice (some ⟨go16, 0, none⟩) x7_1.length co16)) (by (with_reducible repeat (first | apply Kd.R_alloc | apply Kd.R_drewN | apply Kd.R_drew)); exact HO_16.out) (Kd.R_typed HO_7.out) (by decide) hg); have n2_ := Aside0.mk ((by rw [hw]; exact below_set (HB.out) GB16.out : Below w.heap.size w w28)); clear HO_7; clear HO_16; clear HB; have HO_7 := n0_; have HO_16 := n1_; have HB := n2_; clear n0_ n1_ n2_; clear hg hw hp_; have p131 : 0 ≤ ((rd t126 x18_1) : Int) := of_decide_eq_true (by first | (with_reducible assumption) | assumption); have q131 : (rd t126 x18_1) < (l0.length : Int) := of_decide_eq_true (by first | (with_reducible assumption) | assumption); obtain ⟨ad131, e131, hx131_0, hx131_1, hx131_2, hx131_3, hx131_4⟩ := at_T49 HR0.out (rd t126 x18_1) p131 q131; cases e131; replace hx131_0 := (HB.out.cell (World.block_lt_of_cell? w _ hx131_0)).trans hx131_0; replace hx131_1 := (HB.out.cell (World.block_lt_of_cell? w _ hx131_1)).trans hx131_1; replace hx131_2 := (HB.out.cell (World.block_lt_of_cell? w _ hx131_2)).trans hx131_2; replace hx131_3 := (HB.out.cell (World.block_lt_of_cell? w _ hx131_3)).trans hx131_3; replace hx131_4 := (HB.out.cell (World.block_lt_of_cell? w _ hx131_4)).trans hx131_4; replace p131 := eq_true p131; replace q131 := eq_true q131) | ((with_reducible refine gate_callee (f := 47) rfl ?_); refine goesL_ (some 30) rfl rfl Try.func47 (by kernel_rfl) rfl #[.agg #[.int .i64 ((rd_T49 l0 (rd t126 x18_1)).f0), .string ((rd_T49 l0 (rd t126 x18_1)).f1), .int .i64 ((rd_T49 l0 (rd t126 x18_1)).f2), .int .i64 ((rd_T49 l0 (rd t126 x18_1)).f3), .int .i64 ((rd_T49 l0 (rd t126 x18_1)).f4)]] rfl (by (try simp only [List.map_toArray, List.map_cons, List.map_nil]); first | done | rfl | (simp only [List.length_drop, List.length_take]; rfl)) ?_; (with_reducible refine (impl_hoursLeft.calls ((rd_T49 l0 (rd t126 x18_1)).f0) ((rd_T49 l0 (rd t126 x18_1)).f1) ((rd_T49 l0 (rd t126 x18_1)).f2) ((rd_T49 l0 (rd t126 x18_1)).f3) ((rd_T49 l0 (rd t126 x18_1)).f4) t132 _ A18.out).mono ?_); rintro e w29 ⟨rfl, hb⟩; refine ⟨_, rfl, ?_⟩; have n0_ := Aside0.mk (Kd.R_below (by (with_reducible repeat (first | apply Kd.R_alloc | apply Kd.R_drewN | apply Kd.R_drew)); exact HO_7.out) hb); have n1_ := Aside0.mk (Kd.R_below (by (with_reducible repeat (first | apply Kd.R_alloc | apply Kd.R_drewN | apply Kd.R_drew)); exact HO_16.out) hb); have n2_ := Aside0.mk (below_step (by repeat (first | (with_reducible first | exact HB.out | apply below_alloc | apply pw_below_drewN | apply below_drew1) | exact HB.out)) hb); clear HO_7; clear HO_16; clear HB; have HO_7 := n0_; have HO_16 := n1_; have HB := n2_; clear n0_ n1_ n2_; (try clear hb); (try clear hb2); (try clear hk); (try clear hi)))
            go_roundg k1
            case measure => have := HK1.out; omega
            case rel => exact ⟨(y130), (x8_1), (wrap64 (x18_1 + 1)), (by first | rfl | (simp; done) | (simp [*]; done)), (by first | rfl | (simp; done) | (simp [*]; done)), H', ⟨by have := HK1.out; omega⟩, ⟨by (with_reducible repeat (first | apply Kd.R_alloc | apply Kd.R_drewN | apply Kd.R_drew)); exact HO_7.out⟩, ⟨by (with_reducible repeat (first | apply Kd.R_alloc | apply Kd.R_drewN | apply Kd.R_drew)); exact HO_16.out⟩, ⟨by repeat (first | (with_reducible first | exact HB.out | apply below_alloc | apply pw_below_drewN | apply below_drew1) | exact HB.out)⟩⟩
          ·rw [if_neg c17] at H
           exact absurd H (by simp)
         ·rw [if_neg c15] at H
          exact absurd H (by simp)
        ·rw [if_neg c14] at H
         exact absurd H (by simp)
       ·rw [if_neg c13] at H
        exact absurd H (by simp)
      ·rw [if_neg c12] at H
       exact absurd H (by simp)
     ·rw [if_neg c11] at H
      have c11b0 : decide (x18_1 < (t126.length : Int)) = false := decide_eq_false c11
      clear c11
      obtain rfl := Option.some.inj H
      go_wp2
      go_ret
      exact ⟨_, by first | rfl | (simp [errW_none, errW_some] <;> rfl) | (simp [*, errW_none, errW_some] <;> rfl), by (with_reducible repeat (first | apply Kd.R_alloc | apply Kd.R_drewN | apply Kd.R_drew)); exact HO_7.out, by repeat (first | (with_reducible first | exact HB.out | apply below_alloc | apply pw_below_drewN | apply below_drew1) | exact HB.out)⟩
  ·rw [if_neg c5] at H
   exact absurd H (by simp)
 ·rw [if_neg c4] at H
  exact absurd H (by simp)

end Go.Proofs.Ytedidhfmknhlkaa.QFnLoftDays
