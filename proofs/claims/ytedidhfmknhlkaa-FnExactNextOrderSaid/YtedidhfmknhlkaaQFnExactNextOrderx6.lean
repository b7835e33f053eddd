/- Functions and contracts of one law, printed by this session's own program (contracts by hand among them). -/
import Derived.Test.YtedidhfmknhlkaaQFnExactNextOrderx0
import Derived.Test.YtedidhfmknhlkaaQFnExactNextOrderx1
import Derived.Test.YtedidhfmknhlkaaQFnExactNextOrderx3
import Derived.Test.YtedidhfmknhlkaaQFnExactNextOrderx5
namespace Go.Proofs.Ytedidhfmknhlkaa.QFnExactNextOrder
open Go.RowKit Go.Proofs.YtedidhfmknhlkaaW.PrintWords Go.Proofs.YtedidhfmknhlkaaW.PrintLast Go.Proofs.YtedidhfmknhlkaaW.PrintMore
attribute [local go_sem] max2_int min2_int max_two min_two max_three min_three max_four min_four   -- for this text's walks alone
set_option linter.unusedVariables false
set_option linter.unusedSimpArgs false

/-! ### impl_workOrder: function 55, by hand -/
section
open Go.Proofs.Ytedidhfmknhlkaa.Base
theorem isNaN_calls (x : Int) (w : World) : Calls Try.prog 79 #[.int .i64 x] w fun e w' => e = .returned (.bool false) ∧ w' = w := by
  go_enter Try.func79, Try.ntmps79
  go_wp2
  go_ret
  exact ⟨by simp, rfl⟩
def cmpI (x y : Int) : Int := if x < y then -1 else if y < x then 1 else 0
theorem Cmp_calls (x y : Int) (w : World) : Calls Try.prog 67 #[.int .i64 x, .int .i64 y] w fun e w' => e = .returned (.int .i64 (cmpI x y)) ∧ w' = w := by
  have I := Aside0.mk isNaN_calls
  by_cases h : x < y
  · have hc : cmpI x y = -1 := by unfold cmpI; rw [if_pos h]
    rw [hc]
    have h1 : decide (x < y) = true := decide_eq_true h
    clear hc h
    go_enter Try.func67, Try.ntmps67
    go_wp2_with (go_at_call 79; (with_reducible refine (I.out _ _).mono ?_); rintro e w' ⟨rfl, rfl⟩)
    go_ret
    exact ⟨rfl, rfl⟩
  · by_cases h2 : y < x
    · have hc : cmpI x y = 1 := by unfold cmpI; rw [if_neg h, if_pos h2]
      rw [hc]
      have h1 : decide (x < y) = false := decide_eq_false h
      have h3 : decide (y < x) = true := decide_eq_true h2
      clear hc h h2
      go_enter Try.func67, Try.ntmps67
      go_wp2_with (go_at_call 79; (with_reducible refine (I.out _ _).mono ?_); rintro e w' ⟨rfl, rfl⟩)
      go_ret
      exact ⟨rfl, rfl⟩
    · have hc : cmpI x y = 0 := by unfold cmpI; rw [if_neg h, if_neg h2]
      rw [hc]
      have h1 : decide (x < y) = false := decide_eq_false h
      have h3 : decide (y < x) = false := decide_eq_false h2
      clear hc h h2
      go_enter Try.func67, Try.ntmps67
      go_wp2_with (go_at_call 79; (with_reducible refine (I.out _ _).mono ?_); rintro e w' ⟨rfl, rfl⟩)
      go_ret
      exact ⟨rfl, rfl⟩
set_option maxHeartbeats 8000000 in
set_option maxRecDepth 100000 in
theorem orderCmp (l0 : List S49) (A0 : Option Addr) (c0 : Nat) (B : Nat) (a b : Nat) (w : World) (hr0 : Kd.C k49 w A0 l0.length l0) (hB : w.cell? ⟨B, 0, none⟩ = some (.slice A0 l0.length c0)) (ha : a < l0.length) (hb : b < l0.length) :
    Calls Try.prog 73 #[.int .i64 a, .int .i64 b, .pointer (some ⟨B, 0, none⟩)] w fun e w' => e = .returned (.int .i64 (cmpI (rd_T49 l0 a).f4 (rd_T49 l0 b).f4)) ∧ ∃ q, w' = w.drewN q := by
  obtain ⟨ad, rfl, _, _, _, _, c4⟩ := at_T49 hr0 (a : Int) (by omega) (by omega)
  obtain ⟨ad2, e2, _, _, _, _, d4⟩ := at_T49 hr0 (b : Int) (by omega) (by omega)
  cases e2
  rw [Int.toNat_natCast] at c4 d4
  have I : Aside0 (∀ (W : World), Calls Try.prog 67 #[.int .i64 (rd_T49 l0 a).f4, .int .i64 (rd_T49 l0 b).f4] W fun e w' => e = .returned (.int .i64 (cmpI (rd_T49 l0 a).f4 (rd_T49 l0 b).f4)) ∧ w' = W) := ⟨fun W => Cmp_calls _ _ W⟩
  clear hr0
  generalize cmpI (rd_T49 l0 a).f4 (rd_T49 l0 b).f4 = r at I ⊢
  generalize (rd_T49 l0 a).f4 = x at I c4
  generalize (rd_T49 l0 b).f4 = y at I d4
  go_enter Try.func73, Try.ntmps73
  go_wp2
  go_quiet ((go_at_call 67; with_reducible exact Calls.quiet_of_same (I.out _)))
  go_wp2
  go_ret
  exact ⟨rfl, _, rfl⟩
open Go.Shelf Go.Sort
def insL_ren : Go.Shelf.Ren := ⟨fun | 20 => 96 | n => n, fun | 24 => 3 | 22 => 63 | 3 => 3 | 25 => 79 | 4 => 4 | 0 => 0 | n => n, fun | n => n⟩
theorem insL : Go.Proofs.SlLaysF.n20 Try.prog insL_ren := {
  mixed := by kernel_rfl
  f20 := ⟨Try.f96.name, by decide, Try.func96.trans (congrArg some (by kernel_rfl))⟩
  t0 := Try.underlying0
  a0 := Try.isAgg0
  z0 := Try.sizeOf0
  v0 := Try.zeroValue0
  t3 := Try.underlying3
  a3 := Try.isAgg3
  z3 := Try.sizeOf3
  v3 := Try.zeroValue3
  t4 := Try.underlying4
  a4 := Try.isAgg4
  z4 := Try.sizeOf4
  v4 := Try.zeroValue4
  t22 := Try.underlying63
  a22 := Try.isAgg63
  z22 := Try.sizeOf63
  v22 := Try.zeroValue63
  a24 := Try.isAgg3
  z24 := Try.sizeOf3
  t25 := Try.underlying79
  a25 := Try.isAgg79
  z25 := Try.sizeOf79
  v25 := Try.zeroValue79 }

theorem heap_sortWorld {α : Type} [Inhabited α] (enc : α → Value) (w : World) (blk off m : Nat) (dk : Array α) (os : Array Obj) (k : Nat) (hk : k ≠ blk) (hlt : k < w.heap.size) : (sortWorld enc w blk off m dk os).heap[k]? = w.heap[k]? := by
  unfold sortWorld grow putRow mapBlock Sort.ahead
  show (w.heap.modify blk _ ++ os)[k]? = _
  rw [Array.getElem?_append, if_pos (by simpa using hlt), Array.getElem?_modify, if_neg (Ne.symm hk)]
theorem below_sortWorld {α : Type} [Inhabited α] (enc : α → Value) {w0 w : World} (blk off m : Nat) (dk : Array α) (os : Array Obj) (hB : Below w0.heap.size w0 w) (hblk : w0.heap.size ≤ blk) : Below w0.heap.size w0 (sortWorld enc w blk off m dk os) := by
  have hs := hB.size
  refine ⟨hB.os, hB.tape, hB.output, ?_, fun k hk => ?_⟩
  · show w0.heap.size ≤ (w.heap.modify blk _ ++ os).size
    simp
    omega
  · exact (heap_sortWorld enc w blk off m dk os k (by omega) (by omega)).trans (hB.block k hk)
def idxEnc {n : Nat} (i : Fin n) : Value := .int .i64 (i.val : Int)
def idxCmp (l0 : List S49) (a b : Fin l0.length) : Int := cmpI (rd_T49 l0 a.val).f4 (rd_T49 l0 b.val).f4
theorem orderReads (l0 : List S49) [Inhabited (Fin l0.length)] (A0 : Option Addr) (c0 : Nat) (B blk : Nat) (w0 w : World) (hr0 : Kd.C k49 w0 A0 l0.length l0) (hb : Below w0.heap.size w0 w) (hB : w.cell? ⟨B, 0, none⟩ = some (.slice A0 l0.length c0)) (hne : B ≠ blk) (hge : w0.heap.size ≤ blk) :
    CmpReads Try.prog 73 #[.pointer (some ⟨B, 0, none⟩)] (idxEnc (n := l0.length)) (idxCmp l0) blk 0 l0.length w := by
  intro m os dk hs x y
  refine orderCmp l0 A0 c0 B x.val y.val _ (Kd.C_below hr0 (below_sortWorld _ blk 0 m dk os hb hge)) ?_ x.isLt y.isLt
  exact (World.cell?_of_block (heap_sortWorld _ w blk 0 m dk os B hne (World.block_lt_of_cell? w _ hB))).trans hB
theorem orderInsert (l0 : List S49) [Inhabited (Fin l0.length)] (A0 : Option Addr) (c0 cap : Nat) (B g : Nat) (w0 w : World) (hr0 : Kd.C k49 w0 A0 l0.length l0) (hb : Below w0.heap.size w0 w) (hB : w.cell? ⟨B, 0, none⟩ = some (.slice A0 l0.length c0)) (hne : B ≠ g) (hge : w0.heap.size ≤ g)
    (d : Array (Fin l0.length)) (hd : d.size = l0.length) (hH : Holds idxEnc w g 0 d) (a b : Nat) (hab : a ≤ b) (hbn : b ≤ l0.length) (h20 : l0.length ≤ 20) :
    Calls Try.prog 96 #[.slice (some ⟨g, 0, none⟩) l0.length cap, .int .i64 a, .int .i64 b, .func (.func 73) #[] #[.pointer (some ⟨B, 0, none⟩)]] w fun e w' => e = .returned (.tuple #[]) ∧ ∃ n, w' = (putRow idxEnc w g 0 (Sort.insertionSort (ltOf (idxCmp l0)) d a b)).drewN n := by
  have h := Any.insertionSortCmpFunc_one insL (idxEnc (n := l0.length)) (fun _ => rfl) (idxCmp l0) 73 #[.pointer (some ⟨B, 0, none⟩)] g 0 cap a b d w (enters_of Try.func73 (by kernel_rfl) rfl) (by rw [hd]; exact orderReads l0 A0 c0 B g w0 w hr0 hb hB hne hge) hH hab (by omega) (by omega)
  change Calls Try.prog 96 _ _ _ at h
  rw [hd] at h
  exact h

theorem insert_none {α : Type} [Inhabited α] (lt : α → α → Bool) (d : Array α) (b : Nat) : Sort.insertionSort lt d b b = d := by
  unfold Sort.insertionSort Sort.insOuter
  rw [if_neg (by omega)]
theorem insInner_size {α : Type} [Inhabited α] (lt : α → α → Bool) (a : Nat) : ∀ (j : Nat) (d : Array α), (insInner lt a j d).size = d.size
  | 0, d => rfl
  | j + 1, d => by
    unfold insInner
    split
    · rw [insInner_size lt a j, size_swp]
    · rfl
theorem insOuter_size {α : Type} [Inhabited α] (lt : α → α → Bool) (a b : Nat) : ∀ (k i : Nat) (d : Array α), b - i = k → (insOuter lt a b i d).size = d.size := by
  intro k
  induction k with
  | zero =>
    intro i d h
    unfold insOuter
    rw [if_neg (by omega)]
  | succ k ih =>
    intro i d h
    unfold insOuter
    rw [if_pos (by omega), ih (i + 1) _ (by omega), insInner_size]
theorem size_insertionSort {α : Type} [Inhabited α] (lt : α → α → Bool) (d : Array α) (a b : Nat) : (Sort.insertionSort lt d a b).size = d.size := insOuter_size lt a b _ _ d rfl
/-- The state of the blocks' loop: nothing sorted yet, or all twenty. -/
def StRel (n : Nat) (W W1 : World) (v7 v8 : Value) (wr : World) : Prop := (v7 = .int .i64 0 ∧ v8 = .int .i64 20 ∧ wr = W) ∨ (n = 20 ∧ v7 = .int .i64 20 ∧ v8 = .int .i64 40 ∧ ∃ q, wr = W1.drewN q)
set_option maxHeartbeats 8000000 in
set_option maxRecDepth 100000 in
theorem orderStable (l0 : List S49) [Inhabited (Fin l0.length)] (A0 : Option Addr) (c0 cap : Nat) (B g : Nat) (w0 w : World) (hr0 : Kd.C k49 w0 A0 l0.length l0) (hb : Below w0.heap.size w0 w) (hB : w.cell? ⟨B, 0, none⟩ = some (.slice A0 l0.length c0)) (hne : B ≠ g) (hge : w0.heap.size ≤ g)
    (d : Array (Fin l0.length)) (hd : d.size = l0.length) (hH : Holds idxEnc w g 0 d) (h20 : l0.length ≤ 20) :
    Calls Try.prog 80 #[.slice (some ⟨g, 0, none⟩) l0.length cap, .int .i64 l0.length, .func (.func 73) #[] #[.pointer (some ⟨B, 0, none⟩)]] w fun e w' => e = .returned (.tuple #[]) ∧ ∃ n, w' = (putRow idxEnc w g 0 (Sort.insertionSort (ltOf (idxCmp l0)) d 0 l0.length)).drewN n := by
  obtain ⟨W1, hW1⟩ : ∃ W1, W1 = putRow idxEnc w g 0 (Sort.insertionSort (ltOf (idxCmp l0)) d 0 l0.length) := ⟨_, rfl⟩
  rw [← hW1]
  have I0 : Aside0 (Calls Try.prog 96 #[.slice (some ⟨g, 0, none⟩) l0.length cap, .int .i64 0, .int .i64 l0.length, .func (.func 73) #[] #[.pointer (some ⟨B, 0, none⟩)]] w fun e w' => e = .returned (.tuple #[]) ∧ ∃ n, w' = W1.drewN n) := ⟨by
    rw [hW1]; exact orderInsert l0 A0 c0 cap B g w0 w hr0 hb hB hne hge d hd hH 0 l0.length (by omega) (Nat.le_refl _) h20⟩
  have I1 : Aside0 (∀ q, Calls Try.prog 96 #[.slice (some ⟨g, 0, none⟩) l0.length cap, .int .i64 l0.length, .int .i64 l0.length, .func (.func 73) #[] #[.pointer (some ⟨B, 0, none⟩)]] (W1.drewN q) fun e w' => e = .returned (.tuple #[]) ∧ ∃ n, w' = W1.drewN n) := by
    refine ⟨fun q => ?_⟩
    have hs : (Sort.insertionSort (ltOf (idxCmp l0)) d 0 l0.length).size = d.size := size_insertionSort _ _ _ _
    have hH1 : Holds idxEnc (W1.drewN q) g 0 (Sort.insertionSort (ltOf (idxCmp l0)) d 0 l0.length) := by
      rw [hW1]
      exact holds_putRow idxEnc w g 0 d _ hH hs
    have hbW : Below w0.heap.size w0 (W1.drewN q) := by
      have := below_sortWorld idxEnc g 0 q (Sort.insertionSort (ltOf (idxCmp l0)) d 0 l0.length) #[] hb hge
      rw [sortWorld_none] at this
      rw [hW1]
      exact this
    have hBW : (W1.drewN q).cell? ⟨B, 0, none⟩ = some (.slice A0 l0.length c0) := by
      have := heap_sortWorld idxEnc w g 0 q (Sort.insertionSort (ltOf (idxCmp l0)) d 0 l0.length) #[] B hne (World.block_lt_of_cell? w _ hB)
      rw [sortWorld_none] at this
      rw [hW1]
      exact (World.cell?_of_block this).trans hB
    refine (orderInsert l0 A0 c0 cap B g w0 _ hr0 hbW hBW hne hge _ (hs.trans hd) hH1 l0.length l0.length (Nat.le_refl _) (Nat.le_refl _) h20).mono fun e w' ⟨he, n, hn⟩ => ⟨he, q + n, ?_⟩
    rw [hn, insert_none, putRow_self _ _ _ _ _ hH1, World.drewN_drewN]
  clear hW1 hr0 hb hB hH hd
  have hn20 : l0.length = 20 ∨ l0.length < 20 := by omega
  generalize l0.length = n at I0 I1 h20 hn20 ⊢
  go_enter Try.func80, Try.ntmps80
  go_wp2
  go_loopw [7, 8] (fun v7 v8 wr => StRel n w W1 v7 v8 wr) (fun _ v8 _ => 100 - (intOf v8).toNat)
  case atStart => exact .inl ⟨rfl, rfl, rfl⟩
  case round =>
    rcases hrel with ⟨rfl, rfl, rfl⟩ | ⟨rfl, rfl, rfl, q, rfl⟩
    · by_cases hn : n = 20
      · subst hn
        have e20 : ((20 : Nat) : Int) = 20 := rfl
        rw [e20] at I0 I1
        go_wp2_with (go_at_call 96; (with_reducible refine I0.out.mono ?_); rintro e w' ⟨rfl, q, rfl⟩)
        go_roundw
        case rel =>
          (repeat apply Exists.intro)
          exact ⟨.inr ⟨rfl, rfl, rfl, _, rfl⟩, rfl⟩
        case measure => simp [intOf]
      · have hlt : ¬ (20 : Int) ≤ (n : Int) := by omega
        have hlt2 : ¬ (20 : Int) < (n : Int) := by omega
        go_wp2_with (go_at_call 96; (with_reducible refine I0.out.mono ?_); rintro e w' ⟨rfl, q, rfl⟩)
        go_loopw [6] (fun v6 wr => v6 = .int .i64 20 ∧ wr = W1.drewN q) (fun _ _ => 0)
        case atStart => exact ⟨rfl, rfl⟩
        case round =>
          obtain ⟨rfl, rfl⟩ := hrel
          go_wp2
          go_end0
          exact ⟨rfl, _, rfl⟩
    · have e20 : ((20 : Nat) : Int) = 20 := rfl
      rw [e20] at I1
      have I2 := Aside0.mk (I1.out q)
      go_wp2_with (go_at_call 96; (with_reducible refine I2.out.mono ?_); rintro e w' ⟨rfl, q2, rfl⟩)
      go_loopw [6] (fun v6 wr => v6 = .int .i64 20 ∧ wr = W1.drewN q2) (fun _ _ => 0)
      case atStart => exact ⟨rfl, rfl⟩
      case round =>
        obtain ⟨rfl, rfl⟩ := hrel
        go_wp2
        go_end0
        exact ⟨rfl, _, rfl⟩

set_option maxHeartbeats 8000000 in
set_option maxRecDepth 100000 in
theorem orderInsert0 (A : Option Addr) (c : Nat) (B : Nat) (w : World) :
    Calls Try.prog 96 #[.slice A 0 c, .int .i64 0, .int .i64 0, .func (.func 73) #[] #[.pointer (some ⟨B, 0, none⟩)]] w fun e w' => e = .returned (.tuple #[]) ∧ w' = w := by
  go_enter Try.func96, Try.ntmps96
  go_wp2
  go_loopw [8] (fun v8 wr => v8 = .int .i64 1 ∧ wr = w) (fun _ _ => 0)
  case atStart => exact ⟨rfl, rfl⟩
  case round =>
    obtain ⟨rfl, rfl⟩ := hrel
    go_wp2
    go_end0
    exact ⟨rfl, rfl⟩
set_option maxHeartbeats 8000000 in
set_option maxRecDepth 100000 in
theorem orderStable0 (A : Option Addr) (c : Nat) (B : Nat) (w : World) :
    Calls Try.prog 80 #[.slice A 0 c, .int .i64 0, .func (.func 73) #[] #[.pointer (some ⟨B, 0, none⟩)]] w fun e w' => e = .returned (.tuple #[]) ∧ w' = w := by
  have I := Aside0.mk (orderInsert0 A c B w)
  go_enter Try.func80, Try.ntmps80
  go_wp2
  go_loopw [7, 8] (fun v7 v8 wr => v7 = .int .i64 0 ∧ v8 = .int .i64 20 ∧ wr = w) (fun _ _ _ => 0)
  case atStart => exact ⟨rfl, rfl, rfl⟩
  case round =>
    obtain ⟨rfl, rfl, rfl⟩ := hrel
    go_wp2_with (go_at_call 96; (with_reducible refine I.out.mono ?_); rintro e w' ⟨rfl, rfl⟩)
    go_loopw [6] (fun v6 wr => v6 = .int .i64 20 ∧ wr = w') (fun _ _ => 0)
    case atStart => exact ⟨rfl, rfl⟩
    case round =>
      obtain ⟨rfl, rfl⟩ := hrel
      go_wp2
      go_end0
      exact ⟨rfl, rfl⟩
theorem own_putRow {n : Nat} [Inhabited (Fin n)] {W : World} {base g cap : Nat} {xs : List Int} {d1 : Array (Fin n)} (h : W.ownsRow base 3 1 (.slice (some ⟨g, 0, none⟩) n cap) n (nums .i64 xs)) (hd1 : d1.size = n) (q : Nat) :
    ((putRow idxEnc W g 0 d1).drewN q).ownsRow base 3 1 (.slice (some ⟨g, 0, none⟩) n cap) n (nums .i64 (d1.toList.map fun i => (i.val : Int))) := by
  obtain ⟨h1, h2⟩ := h
  refine ⟨by simp [nums, hd1], ?_⟩
  rcases h2 with ⟨h2, _⟩ | ⟨g', cap', cur, he, hb, hh, hn, hm, hs, ht⟩
  · cases h2
  · obtain ⟨rfl, rfl⟩ : g = g' ∧ cap = cap' := by simpa using he
    refine .inr ⟨g, cap, putCells idxEnc 0 d1 cur, rfl, hb, ?_, hn, hm, by simp [putCells, hs], ?_⟩
    · show (W.heap.modify g _)[g]? = _
      rw [Array.getElem?_modify, if_pos rfl, hh]
      rfl
    · apply List.ext_getElem?
      intro k
      rw [Nat.mul_one, List.getElem?_take]
      by_cases hk : k < n
      · rw [if_pos hk]
        have hkc : k < cur.size := by omega
        have hkd : k < d1.size := by omega
        simp only [putCells, nums, Array.getElem?_toList, Array.getElem?_mapIdx, List.getElem?_map]
        rw [Array.getElem?_eq_getElem hkc, Array.getElem?_eq_getElem hkd]
        simp [hk, hd1, idxEnc, hkd]
      · rw [if_neg hk]
        symm
        rw [List.getElem?_eq_none_iff]
        simp [nums, hd1]
        omega
theorem own_holds {n : Nat} [Inhabited (Fin n)] {W : World} {base g cap : Nat} {d : Array (Fin n)} (hd : d.size = n) (h : W.ownsRow base 3 1 (.slice (some ⟨g, 0, none⟩) n cap) n (nums .i64 (d.toList.map fun i => (i.val : Int)))) : Holds idxEnc W g 0 d := by
  intro j hj
  obtain ⟨hc, hf⟩ := own_at h (j : Int) (by omega) (by omega)
  rw [Int.toNat_natCast] at hc hf
  rw [Nat.zero_add]
  refine ⟨hc.trans ?_, hf⟩
  congr 1
  unfold idxEnc
  congr 1
  rw [Go.Proofs.Ytedidhfmknhlkaa.Base.rd_nat _ j (by simpa using hj)]
  simp [getElem!_pos d j hj]
def sortedIdx (l0 : List S49) : List Int :=
  if h : 0 < l0.length then (@Sort.insertionSort (Fin l0.length) ⟨⟨0, h⟩⟩ (ltOf (idxCmp l0)) (Array.ofFn fun i => i) 0 l0.length).toList.map (fun i => (i.val : Int)) else []
set_option maxHeartbeats 8000000 in
set_option maxRecDepth 100000 in
theorem orderSort (l0 : List S49) (A0 : Option Addr) (c0 : Nat) (B : Nat) (w0 w : World) (v : Value) (hr0 : Kd.C k49 w0 A0 l0.length l0) (hb : Below w0.heap.size w0 w) (hB : w.cell? ⟨B, 0, none⟩ = some (.slice A0 l0.length c0)) (hge : w0.heap.size ≤ B)
    (ho : w.ownsRow w0.heap.size 3 1 v l0.length (nums .i64 ((List.range l0.length).map fun i : Nat => (i : Int)))) (hne : some B ≠ v.ownBlock) (h20 : l0.length ≤ 20) :
    Calls Try.prog 72 #[v, .func (.func 73) #[] #[.pointer (some ⟨B, 0, none⟩)]] w fun e w' => e = .returned (.tuple #[]) ∧ w'.ownsRow w0.heap.size 3 1 v l0.length (nums .i64 (sortedIdx l0)) ∧ Below w0.heap.size w0 w' := by
  rcases Nat.eq_zero_or_pos l0.length with h0 | hp
  · have hs : sortedIdx l0 = [] := by unfold sortedIdx; rw [dif_neg (by omega)]
    rw [hs]
    have ho2 : w.ownsRow w0.heap.size 3 1 v l0.length (nums .i64 []) := by
      have : ((List.range l0.length).map fun i : Nat => (i : Int)) = [] := by rw [h0]; rfl
      rwa [this] at ho
    obtain ⟨A, c, rfl⟩ := own_slice ho2
    rw [h0]
    rw [h0] at ho2
    have I := Aside0.mk (orderStable0 A c B w)
    have HO := Aside0.mk ho2
    have HB := Aside0.mk hb
    clear ho ho2 hb hB hr0 hs hne
    go_enter Try.func72, Try.ntmps72
    go_wp2_with (go_at_call 80; (with_reducible refine I.out.mono ?_); rintro e w' ⟨rfl, rfl⟩)
    go_end0
    exact ⟨rfl, HO.out, HB.out⟩
  · obtain ⟨g, cap, rfl, hgb, hgl⟩ := ho.form hp
    letI : Inhabited (Fin l0.length) := ⟨⟨0, hp⟩⟩
    have hxs : ((List.range l0.length).map fun i : Nat => (i : Int)) = ((Array.ofFn fun i : Fin l0.length => i).toList.map fun i => (i.val : Int)) := by
      apply List.ext_getElem
      · simp
      · intro k h1 h2; simp
    rw [hxs] at ho
    have hd : (Array.ofFn fun i : Fin l0.length => i).size = l0.length := Array.size_ofFn
    have hH := own_holds hd ho
    have hne2 : B ≠ g := fun e => hne (by rw [e]; rfl)
    have hst := orderStable l0 A0 c0 cap B g w0 w hr0 hb hB hne2 hgb (Array.ofFn fun i => i) hd hH h20
    have hss : sortedIdx l0 = (Sort.insertionSort (ltOf (idxCmp l0)) (Array.ofFn fun i => i) 0 l0.length).toList.map (fun i => (i.val : Int)) := by unfold sortedIdx; rw [dif_pos hp]
    rw [hss]
    have hsz : (Sort.insertionSort (ltOf (idxCmp l0)) (Array.ofFn fun i : Fin l0.length => i) 0 l0.length).size = l0.length := (size_insertionSort _ _ _ _).trans hd
    generalize Sort.insertionSort (ltOf (idxCmp l0)) (Array.ofFn fun i : Fin l0.length => i) 0 l0.length = d1 at hst hsz ⊢
    have HO : Aside0 (∀ q, ((putRow idxEnc w g 0 d1).drewN q).ownsRow w0.heap.size 3 1 (.slice (some ⟨g, 0, none⟩) l0.length cap) l0.length (nums .i64 (d1.toList.map fun i => (i.val : Int)))) := ⟨fun q => own_putRow ho hsz q⟩
    have HB : Aside0 (∀ q, Below w0.heap.size w0 ((putRow idxEnc w g 0 d1).drewN q)) := ⟨fun q => by
      have := below_sortWorld idxEnc g 0 q d1 #[] hb hgb
      rwa [sortWorld_none] at this⟩
    have I := Aside0.mk hst
    clear hst ho hxs hH hd hss hsz hr0 hb hB hne hne2
    go_enter Try.func72, Try.ntmps72
    go_wp2_with (go_at_call 80; (with_reducible refine I.out.mono ?_); rintro e w' ⟨rfl, q, rfl⟩)
    go_end0
    exact ⟨rfl, HO.out q, HB.out q⟩

theorem not_own {S B : Nat} {v1 v3 : Value} (hat : v1.ownBlock = v3.ownBlock ∨ ∃ b, v1.ownBlock = some b ∧ S ≤ b) (hn : some B ≠ v3.ownBlock) (hB : B < S) : some B ≠ v1.ownBlock := by
  rcases hat with hat | ⟨b, hat, hle⟩
  · rw [hat]; exact hn
  · rw [hat]
    intro e
    injection e with e
    omega
def irange (i : Nat) : List Int := (List.range i).map fun j : Nat => (j : Int)
theorem irange_length (i : Nat) : (irange i).length = i := by simp [irange]
theorem irange_succ (i : Nat) : irange i ++ [(i : Int)] = irange (i + 1) := by simp [irange, List.range_succ]
theorem info3b : (Try.prog.info? 3).map (fun i => (i.zero, i.size, i.bytes)) = some (some (.int .i64 0), 1, 8) := by kernel_rfl
def impl_workOrder.f (l0 : List S49) : Option (List Int) := if l0.length ≤ 20 then some (sortedIdx l0) else none
theorem sortedIdx_length (l0 : List S49) : (sortedIdx l0).length = l0.length := by
  unfold sortedIdx
  split
  · rename_i h
    rw [List.length_map, Array.length_toList]
    exact (@size_insertionSort (Fin l0.length) ⟨⟨0, h⟩⟩ _ _ _ _).trans Array.size_ofFn
  · simp; omega
set_option maxHeartbeats 8000000 in
set_option maxRecDepth 100000 in
theorem impl_workOrder.calls (A0 : Option Addr) (c0 : Nat) (l0 : List (S49)) (r : List Int) (w : World) (hr0 : Kd.C k49 w A0 l0.length l0) (hc0 : l0.length ≤ c0) (h : impl_workOrder.f l0 = some r) :
    Calls Try.prog 55 #[.slice A0 l0.length c0] w fun e w' => ∃ v0_ : Value, e = .returned (v0_) ∧ Kd.R (Kd.int .i64) 3 w' w.heap.size (fun _ => True) v0_ r ∧ Below w.heap.size w w' := by
  unfold impl_workOrder.f at h
  by_cases h20 : l0.length ≤ 20
  · rw [if_pos h20] at h
    obtain rfl := Option.some.inj h
    have HR0 := Aside0.mk hr0
    clear hr0 h hc0
    go_enter Try.func55, Try.ntmps55
    go_wp2
    go_loopw [3, 8] (fun v3 v8 wr => ∃ i : Nat, v8 = .int .i64 i ∧ i ≤ l0.length ∧ Aside0 (wr.ownsRow w.heap.size 3 1 v3 (irange i).length (nums .i64 (irange i))) ∧ Aside0 (Below w.heap.size w wr) ∧ Aside0 (wr.cell? ⟨w.heap.size, 0, none⟩ = some (.slice A0 l0.length c0)) ∧ Aside0 (some w.heap.size ≠ v3.ownBlock)) (fun _ v8 _ => l0.length - (intOf v8).toNat)
    case atStart =>
      refine ⟨0, rfl, Nat.zero_le _, ⟨?_⟩, ⟨?_⟩, ⟨?_⟩, ⟨?_⟩⟩
      · have := own_lit (w.alloc (.cells #[Value.slice A0 l0.length c0] 25)) w.heap.size 3 .i64 [] (by simp) (by simp)
        simpa [irange, nums] using this
      · exact ((Below.refl _ _).alloc (Nat.le_refl _) _).alloc (by simp) _
      · simp [World.cell?_alloc_new]
      · simp [Value.ownBlock]
    case round =>
      obtain ⟨i, rfl, hi, HO, HB, HC, HN⟩ := hrel
      by_cases hlt : i < l0.length
      · go_wp2_with (at_builtin; refine print_append_num (w0 := w) w.heap.size rfl (.tmp 11) (.tmp 13) 63 3 .i64 8 rfl Try.underlying63 info3b (by decide) u3 (irange i) (i : Int) rfl rfl HO.out HB.out HB.out.size ?aL ?_; (case aL => rw [irange_length]; omega); intro v1 w1 hown hb1 hg hat; rw [irange_succ] at hown; have n0_ := Aside0.mk hown; have n1_ := Aside0.mk hb1; have n2_ := Aside0.mk (hg.cell HC.out HN.out); have n3_ := Aside0.mk (not_own hat HN.out (World.block_lt_of_cell? wr _ HC.out)); clear hown hb1 hg hat)
        go_roundw
        case rel => exact ⟨i + 1, by go_num, by omega, n0_, n1_, n2_, n3_⟩
        case measure => simp [intOf]; omega
      · have hin : i = l0.length := by omega
        subst hin
        have ho := HO.out
        rw [irange_length] at ho
        have I := Aside0.mk (orderSort l0 A0 c0 w.heap.size w wr u3 HR0.out HB.out HC.out (Nat.le_refl _) ho HN.out h20)
        clear ho
        go_wp2_with (go_at_call 72; (with_reducible refine I.out.mono ?_); rintro e w' ⟨rfl, ho, hb⟩; have n0_ := Aside0.mk ho; have n1_ := Aside0.mk hb; clear ho hb)
        go_ret
        refine ⟨u3, rfl, ?_, n1_.out⟩
        have hl := sortedIdx_length l0
        have ho := n0_.out
        refine Kd.R_of_own (enc := Value.int .i64) (h1 := fun _ => rfl) ?_ ?_
        · rw [hl]; exact ho
        · exact fun _ _ => trivial
  · rw [if_neg h20] at h
    cases h
end


/-! ### impl_NextOrder: function 30 -/
def impl_NextOrder.l0 : Nat → List (S49) → List Int → Int → Int → Option (Int × Int)
  | 0, _, _, _, _ => none
  | k + 1, x0, x10, x11, x12 => if x12 < x11 then (if 0 ≤ x12 then (if x12 < (x10.length : Int) then (if 0 ≤ (rd x10 x12) then (if (rd x10 x12) < (x0.length : Int) then ((impl_hoursLeft.f ((rd_T49 x0 (rd x10 x12)).f0) ((rd_T49 x0 (rd x10 x12)).f1) ((rd_T49 x0 (rd x10 x12)).f2) ((rd_T49 x0 (rd x10 x12)).f3) ((rd_T49 x0 (rd x10 x12)).f4)).bind fun t198 => (if t198 > 0 then (some ((rd_T49 x0 (rd x10 x12)).f0, 0)) else (impl_NextOrder.l0 k x0 x10 x11 (wrap64 (x12 + 1))))) else (none)) else (none)) else (none)) else (none)) else (some (0, 3))
def impl_NextOrder.f (k : Nat) (l0 : List (S49)) : Option (Int × Int) := (impl_ValidOrders.f k l0).bind fun t192 => (if t192 = true then ((impl_workOrder.f l0).bind fun t193 => (impl_NextOrder.l0 k l0 t193 (t193.length : Int) 0)) else (some (0, 1)))
theorem impl_NextOrder.mono_l : ∀ k, (∀ y0 y1 y2 y3, LeO (impl_NextOrder.l0 k y0 y1 y2 y3) (impl_NextOrder.l0 (k + 1) y0 y1 y2 y3))
  | 0 => fun _ _ _ _ r h => by simp [impl_NextOrder.l0] at h
  | k + 1 => by
    have ih0 := impl_NextOrder.mono_l k
    · intro y0 y1 y2 y3
      unfold impl_NextOrder.l0
      repeat' first
      | (with_reducible exact ih0 _ _ _ _)
      | (with_reducible exact impl_ValidOrders.mono _ _)
      | (with_reducible exact LeO.refl _)
      | (with_reducible exact LeO.none _)
      | (with_reducible refine LeO.ite ?_ ?_)
      | (with_reducible refine LeO.bind ?_ (fun _ => ?_))
      | exact ih0 _ _ _ _
      | exact impl_ValidOrders.mono _ _
      | exact LeO.none _
      | refine LeO.ite ?_ ?_
      | refine LeO.bind ?_ (fun _ => ?_)
theorem impl_NextOrder.mono : ∀ a0 k, LeO (impl_NextOrder.f k a0) (impl_NextOrder.f (k + 1) a0) := by
  intro a0 k
  have ih0 := impl_NextOrder.mono_l k
  unfold impl_NextOrder.f
  repeat' first
      | (with_reducible exact ih0 _ _ _ _)
      | (with_reducible exact impl_ValidOrders.mono _ _)
      | (with_reducible exact LeO.refl _)
      | (with_reducible exact LeO.none _)
      | (with_reducible refine LeO.ite ?_ ?_)
      | (with_reducible refine LeO.bind ?_ (fun _ => ?_))
      | exact ih0 _ _ _ _
      | exact impl_ValidOrders.mono _ _
      | exact LeO.none _
      | refine LeO.ite ?_ ?_
      | refine LeO.bind ?_ (fun _ => ?_)
set_option maxHeartbeats 8000000 in
set_option maxRecDepth 100000 in
theorem impl_NextOrder.calls (k : Nat) (A0 : Option Addr) (c0 : Nat) (l0 : List (S49)) (r1 : Int) (r2 : Int) (w : World) (hr0 : Kd.C k49 w A0 l0.length l0) (hc0 : l0.length ≤ c0) (h : impl_NextOrder.f k l0 = some (r1, r2)) :
    Calls Try.prog 30 #[.slice A0 l0.length c0] w fun e w' => e = .returned (.tuple #[.int .i64 r1, .int .i64 r2]) ∧ Below w.heap.size w w' := by
  have hu49 := Try.underlying49
  have HR0 := Aside0.mk hr0
  have HC0 := Aside0.mk hc0
  clear hr0 hc0
  have HB := Aside0.mk (Below.refl w.heap.size w)
  have H : ((impl_ValidOrders.f k l0).bind fun t192 => (if t192 = true then ((impl_workOrder.f l0).bind fun t193 => (impl_NextOrder.l0 k l0 t193 (t193.length : Int) 0)) else (some (0, 1)))) = some (r1, r2) := h
  clear h
  replace H := Option.bind_eq_some_iff.mp H
  obtain ⟨t192, A20, H⟩ := H
  replace H : (if t192 = true then ((impl_workOrder.f l0).bind fun t193 => (impl_NextOrder.l0 k l0 t193 (t193.length : Int) 0)) else (some (0, 1))) = some (r1, r2) := H
  have A2 := Aside0.mk A20
  clear A20
  by_cases c3 : t192 = true
  · subst c3
    have H1 : ((impl_workOrder.f l0).bind fun t193 => (impl_NextOrder.l0 k l0 t193 (t193.length : Int) 0)) = some (r1, r2) := by rw [if_pos rfl] at H; exact H
    clear H
    have H := H1
    clear H1
    replace H := Option.bind_eq_some_iff.mp H
    obtain ⟨t193, A40, H⟩ := H
    replace H : (impl_NextOrder.l0 k l0 t193 (t193.length : Int) 0) = some (r1, r2) := H
    have A4 := Aside0.mk A40
    clear A40
    have H' := Aside0.mk H
    clear H
    go_enter Try.func30, Try.ntmps30
    go_wp2_with (first | ((with_reducible refine gate_callee (f := 16) rfl ?_); refine goesL_ (some 7) rfl rfl Try.func16 (by kernel_rfl) rfl #[.slice A0 l0.length c0] rfl (by (try simp only [List.map_toArray, List.map_cons, List.map_nil]); first | done | rfl | (simp only [List.length_drop, List.length_take]; rfl)) ?_; (with_reducible refine (impl_ValidOrders.calls k _ _ l0 true _ ?side1 ?side2 A2.out).mono ?_); (case side1 => repeat (first | exact HR0.out | (with_reducible refine Kd.C_alloc ?_ _) | (with_reducible refine Kd.C_drewN ?_ _) | (with_reducible refine Kd.C_drew ?_))); (case side2 => exact HC0.out); rintro e w5 ⟨rfl, hb⟩; refine ⟨_, rfl, ?_⟩; have n0_ := Aside0.mk (below_step (by repeat (first | (with_reducible first | exact HB.out | apply below_alloc | apply pw_below_drewN | apply below_drew1) | exact HB.out)) hb); clear HB; have HB := n0_; clear n0_; (try clear hb); (try clear hb2); (try clear hk); (try clear hi)) | ((with_reducible refine gate_callee (f := 55) rfl ?_); refine goesL_ (some 10) rfl rfl Try.func55 (by kernel_rfl) rfl #[.slice A0 l0.length c0] rfl (by (try simp only [List.map_toArray, List.map_cons, List.map_nil]); first | done | rfl | (simp only [List.length_drop, List.length_take]; rfl)) ?_; (with_reducible refine (impl_workOrder.calls _ _ l0 t193 _ ?side1 ?side2 A4.out).mono ?_); (case side1 => repeat (first | exact (Kd.C_below HR0.out HB.out) | (with_reducible refine Kd.C_alloc ?_ _) | (with_reducible refine Kd.C_drewN ?_ _) | (with_reducible refine Kd.C_drew ?_))); (case side2 => exact HC0.out); rintro e w6 ⟨v194, rfl, ho0, hb⟩; refine ⟨_, rfl, ?_⟩; have n0_ := Aside0.mk (Kd.R_lower ho0 (below_size (by repeat (first | (with_reducible first | exact HB.out | apply below_alloc | apply pw_below_drewN | apply below_drew1) | exact HB.out)))); have n1_ := Aside0.mk (below_step (by repeat (first | (with_reducible first | exact HB.out | apply below_alloc | apply pw_below_drewN | apply below_drew1) | exact HB.out)) hb); clear HB; have HO195 := n0_; have HB := n1_; clear n0_ n1_; (try clear hb); (try clear hb2); (try clear hk); (try clear hi); (try clear ho0); obtain ⟨Ao7, co7, eo7⟩ := Kd.R_slice HO195.out; subst eo7))
    go_loopg [12] k (fun kq v12 w' => ∃ (x12_1 : Int), v12 = .int .i64 x12_1 ∧ Aside0 (impl_NextOrder.l0 kq l0 t193 (t193.length : Int) x12_1 = some (r1, r2)) ∧ Aside0 (kq ≤ k) ∧ Aside0 (Kd.R (Kd.int .i64) 3 w' w.heap.size (fun _ => True) (.slice Ao7 t193.length co7) t193) ∧ Aside0 (Below w.heap.size w w'))
    case atStart => exact ⟨(0), (by first | rfl | (simp; done) | (simp [*]; done)), H', ⟨Nat.le_refl _⟩, ⟨by (with_reducible repeat (first | apply Kd.R_alloc | apply Kd.R_drewN | apply Kd.R_drew)); exact HO195.out⟩, ⟨by repeat (first | (with_reducible first | exact HB.out | apply below_alloc | apply pw_below_drewN | apply below_drew1) | exact HB.out)⟩⟩
    case round =>
      clear H'
      try clear c1
      try clear p2
      try clear c3
      try clear c5
      obtain ⟨x12_1, rfl, HA, HK1, HO_10, HB⟩ := hrel
      cases gk with
      | zero => exact absurd HA.out (by simp [impl_NextOrder.l0])
      | succ k1 =>
        have H := HA.out
        clear HA
        simp only [impl_NextOrder.l0] at H
        by_cases c8 : x12_1 < (t193.length : Int)
        · rw [if_pos c8] at H
          have c8b0 : decide (x12_1 < (t193.length : Int)) = true := decide_eq_true c8
          clear c8
          by_cases c9 : 0 ≤ x12_1
          · rw [if_pos c9] at H
            have c9b0 : decide (0 ≤ x12_1) = true := decide_eq_true c9
            clear c9
            by_cases c10 : x12_1 < (t193.length : Int)
            · rw [if_pos c10] at H
              have c10b0 : decide (x12_1 < (t193.length : Int)) = true := decide_eq_true c10
              clear c10
              by_cases c11 : 0 ≤ (rd t193 x12_1)
              · rw [if_pos c11] at H
                have c11b0 : decide (0 ≤ (rd t193 x12_1)) = true := decide_eq_true c11
                clear c11
                by_cases c12 : (rd t193 x12_1) < (l0.length : Int)
                · rw [if_pos c12] at H
                  have c12b0 : decide ((rd t193 x12_1) < (l0.length : Int)) = true := decide_eq_true c12
                  clear c12
                  replace H := Option.bind_eq_some_iff.mp H
                  obtain ⟨t198, A130, H⟩ := H
                  replace H : (if t198 > 0 then (some ((rd_T49 l0 (rd t193 x12_1)).f0, 0)) else (impl_NextOrder.l0 k1 l0 t193 (t193.length : Int) (wrap64 (x12_1 + 1)))) = some (r1, r2) := H
                  have A13 := Aside0.mk A130
                  clear A130
                  by_cases c14 : t198 > 0
                  · rw [if_pos c14] at H
                    have c14b0 : decide (0 < t198) = true := decide_eq_true c14
                    clear c14
                    simp only [Option.some.injEq, Prod.mk.injEq] at H
                    obtain ⟨rfl, rfl⟩ := H
                    have p196 : 0 ≤ (x12_1 : Int) := of_decide_eq_true (by first | (with_reducible assumption) | assumption)
                    have q196 : x12_1 < (t193.length : Int) := of_decide_eq_true (by first | (with_reducible assumption) | assumption)
                    obtain ⟨ad196, e196, hx196_0⟩ := Kd.at_int (Kd.R_reads' HO_10.out).2.2 x12_1 p196 q196
                    cases e196
                    replace p196 := eq_true p196
                    replace q196 := eq_true q196
                    have p197 : 0 ≤ ((rd t193 x12_1) : Int) := of_decide_eq_true (by first | (with_reducible assumption) | assumption)
                    have q197 : (rd t193 x12_1) < (l0.length : Int) := of_decide_eq_true (by first | (with_reducible assumption) | assumption)
                    obtain ⟨ad197, e197, hx197_0, hx197_1, hx197_2, hx197_3, hx197_4⟩ := at_T49 HR0.out (rd t193 x12_1) p197 q197
                    cases e197
                    replace hx197_0 := (HB.out.cell (World.block_lt_of_cell? w _ hx197_0)).trans hx197_0
                    replace hx197_1 := (HB.out.cell (World.block_lt_of_cell? w _ hx197_1)).trans hx197_1
                    replace hx197_2 := (HB.out.cell (World.block_lt_of_cell? w _ hx197_2)).trans hx197_2
                    replace hx197_3 := (HB.out.cell (World.block_lt_of_cell? w _ hx197_3)).trans hx197_3
                    replace hx197_4 := (HB.out.cell (World.block_lt_of_cell? w _ hx197_4)).trans hx197_4
                    replace p197 := eq_true p197
                    replace q197 := eq_true q197
                    go_wp2_with (first | ((with_reducible refine gate_callee (f := 47) rfl ?_); refine goesL_ (some 20) rfl rfl Try.func47 (by kernel_rfl) rfl #[.agg #[.int .i64 ((rd_T49 l0 (rd t193 x12_1)).f0), .string ((rd_T49 l0 (rd t193 x12_1)).f1), .int .i64 ((rd_T49 l0 (rd t193 x12_1)).f2), .int .i64 ((rd_T49 l0 (rd t193 x12_1)).f3), .int .i64 ((rd_T49 l0 (rd t193 x12_1)).f4)]] rfl (by (try simp only [List.map_toArray, List.map_cons, List.map_nil]); first | done | rfl | (simp only [List.length_drop, List.length_take]; rfl)) ?_; (with_reducible refine (impl_hoursLeft.calls ((rd_T49 l0 (rd t193 x12_1)).f0) ((rd_T49 l0 (rd t193 x12_1)).f1) ((rd_T49 l0 (rd t193 x12_1)).f2) ((rd_T49 l0 (rd t193 x12_1)).f3) ((rd_T49 l0 (rd t193 x12_1)).f4) t198 _ A13.out).mono ?_); rintro e w15 ⟨rfl, hb⟩; refine ⟨_, rfl, ?_⟩; have n0_ := Aside0.mk (Kd.R_below (by (with_reducible repeat (first | apply Kd.R_alloc | apply Kd.R_drewN | apply Kd.R_drew)); exact HO_10.out) hb); have n1_ := Aside0.mk (below_step (by repeat (first | (with_reducible first | exact HB.out | apply below_alloc | apply pw_below_drewN | apply below_drew1) | exact HB.out)) hb); clear HO_10; clear HB; have HO_10 := n0_; have HB := n1_; clear n0_ n1_; (try clear hb); (try clear hb2); (try clear hk); (try clear hi); have p199 : 0 ≤ ((rd t193 x12_1) : Int) := of_decide_eq_true (by first | (with_reducible assumption) | assumption); have q199 : (rd t193 x12_1) < (l0.length : Int) := of_decide_eq_true (by first | (with_reducible assumption) | assumption); obtain ⟨ad199, e199, hx199_0, hx199_1, hx199_2, hx199_3, hx199_4⟩ := at_T49 HR0.out (rd t193 x12_1) p199 q199; obtain rfl : ad197 = ad199 := (by injection e199); replace hx199_0 := (HB.out.cell (World.block_lt_of_cell? w _ hx199_0)).trans hx199_0; replace hx199_1 := (HB.out.cell (World.block_lt_of_cell? w _ hx199_1)).trans hx199_1; replace hx199_2 := (HB.out.cell (World.block_lt_of_cell? w _ hx199_2)).trans hx199_2; replace hx199_3 := (HB.out.cell (World.block_lt_of_cell? w _ hx199_3)).trans hx199_3; replace hx199_4 := (HB.out.cell (World.block_lt_of_cell? w _ hx199_4)).trans hx199_4; replace p199 := eq_true p199; replace q199 := eq_true q199))
                    go_ret2
                    exact ⟨by first | rfl | (simp [errW_none, errW_some] <;> rfl) | (simp [*, errW_none, errW_some] <;> rfl), by repeat (first | (with_reducible first | exact HB.out | apply below_alloc | apply pw_below_drewN | apply below_drew1) | exact HB.out)⟩
                  · rw [if_neg c14] at H
                    have c14b0 : decide (0 < t198) = false := decide_eq_false c14
                    clear c14
                    have H' := Aside0.mk H
                    clear H
                    have p196 : 0 ≤ (x12_1 : Int) := of_decide_eq_true (by first | (with_reducible assumption) | assumption)
                    have q196 : x12_1 < (t193.length : Int) := of_decide_eq_true (by first | (with_reducible assumption) | assumption)
                    obtain ⟨ad196, e196, hx196_0⟩ := Kd.at_int (Kd.R_reads' HO_10.out).2.2 x12_1 p196 q196
                    cases e196
                    replace p196 := eq_true p196
                    replace q196 := eq_true q196
                    have p197 : 0 ≤ ((rd t193 x12_1) : Int) := of_decide_eq_true (by first | (with_reducible assumption) | assumption)
                    have q197 : (rd t193 x12_1) < (l0.length : Int) := of_decide_eq_true (by first | (with_reducible assumption) | assumption)
                    obtain ⟨ad197, e197, hx197_0, hx197_1, hx197_2, hx197_3, hx197_4⟩ := at_T49 HR0.out (rd t193 x12_1) p197 q197
                    cases e197
                    replace hx197_0 := (HB.out.cell (World.block_lt_of_cell? w _ hx197_0)).trans hx197_0
                    replace hx197_1 := (HB.out.cell (World.block_lt_of_cell? w _ hx197_1)).trans hx197_1
                    replace hx197_2 := (HB.out.cell (World.block_lt_of_cell? w _ hx197_2)).trans hx197_2
                    replace hx197_3 := (HB.out.cell (World.block_lt_of_cell? w _ hx197_3)).trans hx197_3
                    replace hx197_4 := (HB.out.cell (World.block_lt_of_cell? w _ hx197_4)).trans hx197_4
                    replace p197 := eq_true p197
                    replace q197 := eq_true q197
                    go_wp2_with (first | ((with_reducible refine gate_callee (f := 47) rfl ?_); refine goesL_ (some 20) rfl rfl Try.func47 (by kernel_rfl) rfl #[.agg #[.int .i64 ((rd_T49 l0 (rd t193 x12_1)).f0), .string ((rd_T49 l0 (rd t193 x12_1)).f1), .int .i64 ((rd_T49 l0 (rd t193 x12_1)).f2), .int .i64 ((rd_T49 l0 (rd t193 x12_1)).f3), .int .i64 ((rd_T49 l0 (rd t193 x12_1)).f4)]] rfl (by (try simp only [List.map_toArray, List.map_cons, List.map_nil]); first | done | rfl | (simp only [List.length_drop, List.length_take]; rfl)) ?_; (with_reducible refine (impl_hoursLeft.calls ((rd_T49 l0 (rd t193 x12_1)).f0) ((rd_T49 l0 (rd t193 x12_1)).f1) ((rd_T49 l0 (rd t193 x12_1)).f2) ((rd_T49 l0 (rd t193 x12_1)).f3) ((rd_T49 l0 (rd t193 x12_1)).f4) t198 _ A13.out).mono ?_); rintro e w16 ⟨rfl, hb⟩; refine ⟨_, rfl, ?_⟩; have n0_ := Aside0.mk (Kd.R_below (by (with_reducible repeat (first | apply Kd.R_alloc | apply Kd.R_drewN | apply Kd.R_drew)); exact HO_10.out) hb); have n1_ := Aside0.mk (below_step (by repeat (first | (with_reducible first | exact HB.out | apply below_alloc | apply pw_below_drewN | apply below_drew1) | exact HB.out)) hb); clear HO_10; clear HB; have HO_10 := n0_; have HB := n1_; clear n0_ n1_; (try clear hb); (try clear hb2); (try clear hk); (try clear hi)))
                    go_roundg k1
                    case measure => have := HK1.out; omega
                    case rel => exact ⟨(wrap64 (x12_1 + 1)), (by first | rfl | (simp; done) | (simp [*]; done)), H', ⟨by have := HK1.out; omega⟩, ⟨by (with_reducible repeat (first | apply Kd.R_alloc | apply Kd.R_drewN | apply Kd.R_drew)); exact HO_10.out⟩, ⟨by repeat (first | (with_reducible first | exact HB.out | apply below_alloc | apply pw_below_drewN | apply below_drew1) | exact HB.out)⟩⟩
                · rw [if_neg c12] at H
                  exact absurd H (by simp)
              · rw [if_neg c11] at H
                exact absurd H (by simp)
            · rw [if_neg c10] at H
              exact absurd H (by simp)
          · rw [if_neg c9] at H
            exact absurd H (by simp)
        · rw [if_neg c8] at H
          have c8b0 : decide (x12_1 < (t193.length : Int)) = false := decide_eq_false c8
          clear c8
          simp only [Option.some.injEq, Prod.mk.injEq] at H
          obtain ⟨rfl, rfl⟩ := H
          go_wp2
          go_ret2
          exact ⟨by first | rfl | (simp [errW_none, errW_some] <;> rfl) | (simp [*, errW_none, errW_some] <;> rfl), by repeat (first | (with_reducible first | exact HB.out | apply below_alloc | apply pw_below_drewN | apply below_drew1) | exact HB.out)⟩
  · replace c3 := Bool.eq_false_iff.mpr c3
    subst c3
    have H1 : (some (0, 1)) = some (r1, r2) := by rw [if_neg (show ¬ (false = true) by decide)] at H; exact H
    clear H
    have H := H1
    clear H1
    simp only [Option.some.injEq, Prod.mk.injEq] at H
    obtain ⟨rfl, rfl⟩ := H
    go_enter Try.func30, Try.ntmps30
    go_wp2_with (first | ((with_reducible refine gate_callee (f := 16) rfl ?_); refine goesL_ (some 7) rfl rfl Try.func16 (by kernel_rfl) rfl #[.slice A0 l0.length c0] rfl (by (try simp only [List.map_toArray, List.map_cons, List.map_nil]); first | done | rfl | (simp only [List.length_drop, List.length_take]; rfl)) ?_; (with_reducible refine (impl_ValidOrders.calls k _ _ l0 false _ ?side1 ?side2 A2.out).mono ?_); (case side1 => repeat (first | exact HR0.out | (with_reducible refine Kd.C_alloc ?_ _) | (with_reducible refine Kd.C_drewN ?_ _) | (with_reducible refine Kd.C_drew ?_))); (case side2 => exact HC0.out); rintro e w17 ⟨rfl, hb⟩; refine ⟨_, rfl, ?_⟩; have n0_ := Aside0.mk (below_step (by repeat (first | (with_reducible first | exact HB.out | apply below_alloc | apply pw_below_drewN | apply below_drew1) | exact HB.out)) hb); clear HB; have HB := n0_; clear n0_; (try clear hb); (try clear hb2); (try clear hk); (try clear hi)))
    go_ret2
    exact ⟨by first | rfl | (simp [errW_none, errW_some] <;> rfl) | (simp [*, errW_none, errW_some] <;> rfl), by repeat (first | (with_reducible first | exact HB.out | apply below_alloc | apply pw_below_drewN | apply below_drew1) | exact HB.out)⟩

/-! ### laws_FnExactNextOrder: function 7 -/
def laws_FnExactNextOrder.j0 : Nat → List (S50) → List (S49) → Bool → Option (Bool)
  | 0, _, _, _ => none
  | k + 1, x0, x6, x34 => if x34 = true then (some false) else ((laws_toOrderS.f k x0).bind fun t211 => ((laws_eqOrderS.f k x6 t211).bind fun t214 => (if t214 = true then (some true) else (some false))))
def laws_FnExactNextOrder.f (k : Nat) (l0 : List (S50)) : Option (Bool) := (laws_szOrderS.f k l0 1048576).bind fun t200 => (if t200 < 0 then (some true) else ((laws_toOrderS.f k l0).bind fun t201 => ((spec_NextOrder.f k t201).bind fun bt204 => ((laws_toOrderS.f k l0).bind fun t206 => ((impl_NextOrder.f k t206).bind fun bt209 => (if bt209.1 = bt204.1 then (laws_FnExactNextOrder.j0 k l0 t206 (bt209.2 != bt204.2)) else (laws_FnExactNextOrder.j0 k l0 t206 true)))))))
theorem laws_FnExactNextOrder.mono_l : ∀ k, (∀ y0 y1 y2, LeO (laws_FnExactNextOrder.j0 k y0 y1 y2) (laws_FnExactNextOrder.j0 (k + 1) y0 y1 y2))
  | 0 => fun _ _ _ r h => by simp [laws_FnExactNextOrder.j0] at h
  | k + 1 => by
    have ih0 := laws_FnExactNextOrder.mono_l k
    · intro y0 y1 y2
      unfold laws_FnExactNextOrder.j0
      repeat' first
      | (with_reducible exact ih0 _ _ _)
      | (with_reducible exact impl_NextOrder.mono _ _)
      | (with_reducible exact laws_eqOrderS.mono _ _ _)
      | (with_reducible exact laws_szOrderS.mono _ _ _)
      | (with_reducible exact laws_toOrderS.mono _ _)
      | (with_reducible exact spec_NextOrder.mono _ _)
      | (with_reducible exact LeO.refl _)
      | (with_reducible exact LeO.none _)
      | (with_reducible refine LeO.ite ?_ ?_)
      | (with_reducible refine LeO.bind ?_ (fun _ => ?_))
      | exact ih0 _ _ _
      | exact impl_NextOrder.mono _ _
      | exact laws_eqOrderS.mono _ _ _
      | exact laws_szOrderS.mono _ _ _
      | exact laws_toOrderS.mono _ _
      | exact spec_NextOrder.mono _ _
      | exact LeO.none _
      | refine LeO.ite ?_ ?_
      | refine LeO.bind ?_ (fun _ => ?_)
theorem laws_FnExactNextOrder.mono : ∀ a0 k, LeO (laws_FnExactNextOrder.f k a0) (laws_FnExactNextOrder.f (k + 1) a0) := by
  intro a0 k
  have ih0 := laws_FnExactNextOrder.mono_l k
  unfold laws_FnExactNextOrder.f
  repeat' first
      | (with_reducible exact ih0 _ _ _)
      | (with_reducible exact impl_NextOrder.mono _ _)
      | (with_reducible exact laws_eqOrderS.mono _ _ _)
      | (with_reducible exact laws_szOrderS.mono _ _ _)
      | (with_reducible exact laws_toOrderS.mono _ _)
      | (with_reducible exact spec_NextOrder.mono _ _)
      | (with_reducible exact LeO.refl _)
      | (with_reducible exact LeO.none _)
      | (with_reducible refine LeO.ite ?_ ?_)
      | (with_reducible refine LeO.bind ?_ (fun _ => ?_))
      | exact ih0 _ _ _
      | exact impl_NextOrder.mono _ _
      | exact laws_eqOrderS.mono _ _ _
      | exact laws_szOrderS.mono _ _ _
      | exact laws_toOrderS.mono _ _
      | exact spec_NextOrder.mono _ _
      | exact LeO.none _
      | refine LeO.ite ?_ ?_
      | refine LeO.bind ?_ (fun _ => ?_)
set_option maxHeartbeats 8000000 in
set_option maxRecDepth 100000 in
theorem laws_FnExactNextOrder.calls (k : Nat) (A0 : Option Addr) (c0 : Nat) (l0 : List (S50)) (r : Bool) (w : World) (hr0 : Kd.C k50 w A0 l0.length l0) (hc0 : l0.length ≤ c0) (h : laws_FnExactNextOrder.f k l0 = some r) :
    Calls Try.prog 7 #[.slice A0 l0.length c0] w fun e w' => e = .returned (.bool r) ∧ Below w.heap.size w w' := by
  have HR0 := Aside0.mk hr0
  have HC0 := Aside0.mk hc0
  clear hr0 hc0
  have HB := Aside0.mk (Below.refl w.heap.size w)
  have H : ((laws_szOrderS.f k l0 1048576).bind fun t200 => (if t200 < 0 then (some true) else ((laws_toOrderS.f k l0).bind fun t201 => ((spec_NextOrder.f k t201).bind fun bt204 => ((laws_toOrderS.f k l0).bind fun t206 => ((impl_NextOrder.f k t206).bind fun bt209 => (if bt209.1 = bt204.1 then (laws_FnExactNextOrder.j0 k l0 t206 (bt209.2 != bt204.2)) else (laws_FnExactNextOrder.j0 k l0 t206 true)))))))) = some r := h
  clear h
  replace H := Option.bind_eq_some_iff.mp H
  obtain ⟨t200, A20, H⟩ := H
  replace H : (if t200 < 0 then (some true) else ((laws_toOrderS.f k l0).bind fun t201 => ((spec_NextOrder.f k t201).bind fun bt204 => ((laws_toOrderS.f k l0).bind fun t206 => ((impl_NextOrder.f k t206).bind fun bt209 => (if bt209.1 = bt204.1 then (laws_FnExactNextOrder.j0 k l0 t206 (bt209.2 != bt204.2)) else (laws_FnExactNextOrder.j0 k l0 t206 true))))))) = some r := H
  have A2 := Aside0.mk A20
  clear A20
  by_cases c3 : t200 < 0
  · rw [if_pos c3] at H
    have c3b0 : decide (t200 < 0) = true := decide_eq_true c3
    clear c3
    obtain rfl := Option.some.inj H
    go_enter Try.func7, Try.ntmps7
    go_wp2_with (first | ((with_reducible refine gate_callee (f := 13) rfl ?_); refine goesL_ (some 11) rfl rfl Try.func13 (by kernel_rfl) rfl #[.slice A0 l0.length c0, .int .i64 1048576] rfl (by (try simp only [List.map_toArray, List.map_cons, List.map_nil]); first | done | rfl | (simp only [List.length_drop, List.length_take]; rfl)) ?_; (with_reducible refine (laws_szOrderS.calls k _ _ l0 1048576 t200 _ ?side1 ?side2 A2.out).mono ?_); (case side1 => repeat (first | exact HR0.out | (with_reducible refine Kd.C_alloc ?_ _) | (with_reducible refine Kd.C_drewN ?_ _) | (with_reducible refine Kd.C_drew ?_))); (case side2 => exact HC0.out); rintro e w4 ⟨rfl, hb⟩; refine ⟨_, rfl, ?_⟩; have n0_ := Aside0.mk (below_step (by repeat (first | (with_reducible first | exact HB.out | apply below_alloc | apply pw_below_drewN | apply below_drew1) | exact HB.out)) hb); clear HB; have HB := n0_; clear n0_; (try clear hb); (try clear hb2); (try clear hk); (try clear hi)))
    go_ret
    exact ⟨by first | rfl | (simp [errW_none, errW_some] <;> rfl) | (simp [*, errW_none, errW_some] <;> rfl), by repeat (first | (with_reducible first | exact HB.out | apply below_alloc | apply pw_below_drewN | apply below_drew1) | exact HB.out)⟩
  · rw [if_neg c3] at H
    have c3b0 : decide (t200 < 0) = false := decide_eq_false c3
    clear c3
    replace H := Option.bind_eq_some_iff.mp H
    obtain ⟨t201, A50, H⟩ := H
    replace H : ((spec_NextOrder.f k t201).bind fun bt204 => ((laws_toOrderS.f k l0).bind fun t206 => ((impl_NextOrder.f k t206).bind fun bt209 => (if bt209.1 = bt204.1 then (laws_FnExactNextOrder.j0 k l0 t206 (bt209.2 != bt204.2)) else (laws_FnExactNextOrder.j0 k l0 t206 true))))) = some r := H
    have A5 := Aside0.mk A50
    clear A50
    replace H := Option.bind_eq_some_iff.mp H
    obtain ⟨⟨t204, t205⟩, A60, H⟩ := H
    replace H : ((laws_toOrderS.f k l0).bind fun t206 => ((impl_NextOrder.f k t206).bind fun bt209 => (if bt209.1 = t204 then (laws_FnExactNextOrder.j0 k l0 t206 (bt209.2 != t205)) else (laws_FnExactNextOrder.j0 k l0 t206 true)))) = some r := H
    have A6 := Aside0.mk A60
    clear A60
    replace H := Option.bind_eq_some_iff.mp H
    obtain ⟨t206, A70, H⟩ := H
    replace H : ((impl_NextOrder.f k t206).bind fun bt209 => (if bt209.1 = t204 then (laws_FnExactNextOrder.j0 k l0 t206 (bt209.2 != t205)) else (laws_FnExactNextOrder.j0 k l0 t206 true))) = some r := H
    have A7 := Aside0.mk A70
    clear A70
    replace H := Option.bind_eq_some_iff.mp H
    obtain ⟨⟨t209, t210⟩, A80, H⟩ := H
    replace H : (if t209 = t204 then (laws_FnExactNextOrder.j0 k l0 t206 (t210 != t205)) else (laws_FnExactNextOrder.j0 k l0 t206 true)) = some r := H
    have A8 := Aside0.mk A80
    clear A80
    have HC9 := Aside0.mk H
    clear H
    go_enter Try.func7, Try.ntmps7
    go_upto_region 8 with (first | ((with_reducible refine gate_callee (f := 13) rfl ?_); refine goesL_ (some 11) rfl rfl Try.func13 (by kernel_rfl) rfl #[.slice A0 l0.length c0, .int .i64 1048576] rfl (by (try simp only [List.map_toArray, List.map_cons, List.map_nil]); first | done | rfl | (simp only [List.length_drop, List.length_take]; rfl)) ?_; (with_reducible refine (laws_szOrderS.calls k _ _ l0 1048576 t200 _ ?side1 ?side2 A2.out).mono ?_); (case side1 => repeat (first | exact HR0.out | (with_reducible refine Kd.C_alloc ?_ _) | (with_reducible refine Kd.C_drewN ?_ _) | (with_reducible refine Kd.C_drew ?_))); (case side2 => exact HC0.out); rintro e w10 ⟨rfl, hb⟩; refine ⟨_, rfl, ?_⟩; have n0_ := Aside0.mk (below_step (by repeat (first | (with_reducible first | exact HB.out | apply below_alloc | apply pw_below_drewN | apply below_drew1) | exact HB.out)) hb); clear HB; have HB := n0_; clear n0_; (try clear hb); (try clear hb2); (try clear hk); (try clear hi)) | ((with_reducible refine gate_callee (f := 15) rfl ?_); refine goesL_ (some 16) rfl rfl Try.func15 (by kernel_rfl) rfl #[.slice A0 l0.length c0] rfl (by (try simp only [List.map_toArray, List.map_cons, List.map_nil]); first | done | rfl | (simp only [List.length_drop, List.length_take]; rfl)) ?_; (with_reducible refine (laws_toOrderS.calls k _ _ l0 t201 _ ?side1 ?side2 A5.out).mono ?_); (case side1 => repeat (first | exact (Kd.C_below HR0.out HB.out) | (with_reducible refine Kd.C_alloc ?_ _) | (with_reducible refine Kd.C_drewN ?_ _) | (with_reducible refine Kd.C_drew ?_))); (case side2 => exact HC0.out); rintro e w11 ⟨v202, rfl, ho0, hb⟩; refine ⟨_, rfl, ?_⟩; have n0_ := Aside0.mk (Kd.R_lower ho0 (below_size (by repeat (first | (with_reducible first | exact HB.out | apply below_alloc | apply pw_below_drewN | apply below_drew1) | exact HB.out)))); have n1_ := Aside0.mk (below_step (by repeat (first | (with_reducible first | exact HB.out | apply below_alloc | apply pw_below_drewN | apply below_drew1) | exact HB.out)) hb); clear HB; have HO203 := n0_; have HB := n1_; clear n0_ n1_; (try clear hb); (try clear hb2); (try clear hk); (try clear hi); (try clear ho0); obtain ⟨Ao12, co12, eo12⟩ := Kd.R_slice HO203.out; subst eo12) | ((with_reducible refine gate_callee (f := 29) rfl ?_); refine goesL_ (some 17) rfl rfl Try.func29 (by kernel_rfl) rfl #[.slice Ao12 t201.length co12] rfl (by (try simp only [List.map_toArray, List.map_cons, List.map_nil]); first | done | rfl | (simp only [List.length_drop, List.length_take]; rfl)) ?_; (with_reducible refine (spec_NextOrder.calls k _ _ t201 t204 t205 _ ?side1 ?side2 A6.out).mono ?_); (case side1 => repeat (first | exact (Kd.R_reads' HO203.out).2.2 | (with_reducible refine Kd.C_alloc ?_ _) | (with_reducible refine Kd.C_drewN ?_ _) | (with_reducible refine Kd.C_drew ?_))); (case side2 => exact (Kd.R_reads' HO203.out).2.1); rintro e w13 ⟨rfl, hb⟩; refine ⟨_, rfl, ?_⟩; have n0_ := Aside0.mk (Kd.R_below (by (with_reducible repeat (first | apply Kd.R_alloc | apply Kd.R_drewN | apply Kd.R_drew)); exact HO203.out) hb); have n1_ := Aside0.mk (below_step (by repeat (first | (with_reducible first | exact HB.out | apply below_alloc | apply pw_below_drewN | apply below_drew1) | exact HB.out)) hb); clear HO203; clear HB; have HO203 := n0_; have HB := n1_; clear n0_ n1_; (try clear hb); (try clear hb2); (try clear hk); (try clear hi)) | ((with_reducible refine gate_callee (f := 15) rfl ?_); refine goesL_ (some 21) rfl rfl Try.func15 (by kernel_rfl) rfl #[.slice A0 l0.length c0] rfl (by (try simp only [List.map_toArray, List.map_cons, List.map_nil]); first | done | rfl | (simp only [List.length_drop, List.length_take]; rfl)) ?_; (with_reducible refine (laws_toOrderS.calls k _ _ l0 t206 _ ?side1 ?side2 A7.out).mono ?_); (case side1 => repeat (first | exact (Kd.C_below HR0.out HB.out) | (with_reducible refine Kd.C_alloc ?_ _) | (with_reducible refine Kd.C_drewN ?_ _) | (with_reducible refine Kd.C_drew ?_))); (case side2 => exact HC0.out); rintro e w14 ⟨v207, rfl, ho0, hb⟩; refine ⟨_, rfl, ?_⟩; have n0_ := Aside0.mk (Kd.R_elder' (by (with_reducible repeat (first | apply Kd.R_alloc | apply Kd.R_drewN | apply Kd.R_drew)); exact HO203.out) (Kd.R_base ho0) hb); have n1_ := Aside0.mk (Kd.R_lower (Kd.R_new' ho0 (Kd.R_lt (by (with_reducible repeat (first | apply Kd.R_alloc | apply Kd.R_drewN | apply Kd.R_drew)); exact HO203.out))) (below_size (by repeat (first | (with_reducible first | exact HB.out | apply below_alloc | apply pw_below_drewN | apply below_drew1) | exact HB.out)))); have n2_ := Aside0.mk (below_step (by repeat (first | (with_reducible first | exact HB.out | apply below_alloc | apply pw_below_drewN | apply below_drew1) | exact HB.out)) hb); clear HO203; clear HB; have HO203 := n0_; have HO208 := n1_; have HB := n2_; clear n0_ n1_ n2_; (try clear hb); (try clear hb2); (try clear hk); (try clear hi); (try clear ho0); obtain ⟨Ao15, co15, eo15⟩ := Kd.R_slice HO208.out; subst eo15) | ((with_reducible refine gate_callee (f := 30) rfl ?_); refine goesL_ (some 24) rfl rfl Try.func30 (by kernel_rfl) rfl #[.slice Ao15 t206.length co15] rfl (by (try simp only [List.map_toArray, List.map_cons, List.map_nil]); first | done | rfl | (simp only [List.length_drop, List.length_take]; rfl)) ?_; (with_reducible refine (impl_NextOrder.calls k _ _ t206 t209 t210 _ ?side1 ?side2 A8.out).mono ?_); (case side1 => repeat (first | exact (Kd.R_reads' HO208.out).2.2 | (with_reducible refine Kd.C_alloc ?_ _) | (with_reducible refine Kd.C_drewN ?_ _) | (with_reducible refine Kd.C_drew ?_))); (case side2 => exact (Kd.R_reads' HO208.out).2.1); rintro e w16 ⟨rfl, hb⟩; refine ⟨_, rfl, ?_⟩; have n0_ := Aside0.mk (Kd.R_below (by (with_reducible repeat (first | apply Kd.R_alloc | apply Kd.R_drewN | apply Kd.R_drew)); exact HO203.out) hb); have n1_ := Aside0.mk (Kd.R_below (by (with_reducible repeat (first | apply Kd.R_alloc | apply Kd.R_drewN | apply Kd.R_drew)); exact HO208.out) hb); have n2_ := Aside0.mk (below_step (by repeat (first | (with_reducible first | exact HB.out | apply below_alloc | apply pw_below_drewN | apply below_drew1) | exact HB.out)) hb); clear HO203; clear HO208; clear HB; have HO203 := n0_; have HO208 := n1_; have HB := n2_; clear n0_ n1_ n2_; (try clear hb); (try clear hb2); (try clear hk); (try clear hi)))
    (try simp only [Act.put, List.setIfInBounds_toArray, List.set_cons_zero, List.set_cons_succ])
    go_cut [34] (fun v34 wc => ∃ (kq : Nat) (x34_8 : Bool), v34 = .bool x34_8 ∧ Aside0 (laws_FnExactNextOrder.j0 kq l0 t206 x34_8 = some r) ∧ Aside0 (kq ≤ k) ∧ Aside0 (Kd.R k49 49 wc w.heap.size (fun _ => True) (.slice Ao15 t206.length co15) t206) ∧ Aside0 (Below w.heap.size w wc))
    case first =>
      have H := HC9.out
      clear HC9
      by_cases c17 : t209 = t204
      · rw [if_pos c17] at H
        have c17b0 : (t209 == t204) = true := beq_iff_eq.mpr c17
        have c17b1 : (t209 != t204) = false := bne_eq_false_iff_eq.mpr c17
        clear c17
        (first | rw [c17b0] | (simp only [i64_w, i32_w]; rw [c17b0]) | skip)
        have H' := Aside0.mk H
        clear H
        go_wp2
        go_meet
        case rel => exact ⟨_, ((t210 != t205)), (by first | rfl | (simp; done) | (simp [*]; done)), H', ⟨by first | omega | exact Nat.le_refl _⟩, ⟨by (with_reducible repeat (first | apply Kd.R_alloc | apply Kd.R_drewN | apply Kd.R_drew)); exact Kd.R_mono HO208.out (fun _ hk => trivial)⟩, ⟨by repeat (first | (with_reducible first | exact HB.out | apply below_alloc | apply pw_below_drewN | apply below_drew1) | exact HB.out)⟩⟩
      · rw [if_neg c17] at H
        have c17b0 : (t209 == t204) = false := beq_eq_false_iff_ne.mpr c17
        have c17b1 : (t209 != t204) = true := bne_iff_ne.mpr c17
        (first | rw [c17b0] | (simp only [i64_w, i32_w]; rw [c17b0]) | skip)
        have H' := Aside0.mk H
        clear H
        go_wp2
        go_meet
        case rel => exact ⟨_, (true), (by first | rfl | (simp; done) | (simp [*]; done)), H', ⟨by first | omega | exact Nat.le_refl _⟩, ⟨by (with_reducible repeat (first | apply Kd.R_alloc | apply Kd.R_drewN | apply Kd.R_drew)); exact Kd.R_mono HO208.out (fun _ hk => trivial)⟩, ⟨by repeat (first | (with_reducible first | exact HB.out | apply below_alloc | apply pw_below_drewN | apply below_drew1) | exact HB.out)⟩⟩
    case rest =>
      clear HC9
      try clear c1
      try clear c2
      try clear p2
      try clear c3
      try clear c3b0
      try clear c7
      try clear c13
      try clear c15
      try clear c17
      try clear c17b0
      try clear c17b1
      obtain ⟨kq, x34_8, rfl, HA, HJ8, HO_6, HB⟩ := hcut
      cases kq with
      | zero => exact absurd HA.out (by simp [laws_FnExactNextOrder.j0])
      | succ kj8 =>
        have H := HA.out
        clear HA
        simp only [laws_FnExactNextOrder.j0] at H
        by_cases c18 : x34_8 = true
        · subst c18
          have H1 : (some false) = some r := by rw [if_pos rfl] at H; exact H
          clear H
          have H := H1
          clear H1
          obtain rfl := Option.some.inj H
          go_wp2
          go_ret
          exact ⟨by first | rfl | (simp [errW_none, errW_some] <;> rfl) | (simp [*, errW_none, errW_some] <;> rfl), by repeat (first | (with_reducible first | exact HB.out | apply below_alloc | apply pw_below_drewN | apply below_drew1) | exact HB.out)⟩
        · replace c18 := Bool.eq_false_iff.mpr c18
          subst c18
          have H1 : ((laws_toOrderS.f kj8 l0).bind fun t211 => ((laws_eqOrderS.f kj8 t206 t211).bind fun t214 => (if t214 = true then (some true) else (some false)))) = some r := by rw [if_neg (show ¬ (false = true) by decide)] at H; exact H
          clear H
          have H := H1
          clear H1
          replace H := Option.bind_eq_some_iff.mp H
          obtain ⟨t211, A190, H⟩ := H
          replace H : ((laws_eqOrderS.f kj8 t206 t211).bind fun t214 => (if t214 = true then (some true) else (some false))) = some r := H
          have A19 := Aside0.mk A190
          clear A190
          replace H := Option.bind_eq_some_iff.mp H
          obtain ⟨t214, A200, H⟩ := H
          replace H : (if t214 = true then (some true) else (some false)) = some r := H
          have A20 := Aside0.mk A200
          clear A200
          by_cases c21 : t214 = true
          · subst c21
            have H1 : (some true) = some r := by rw [if_pos rfl] at H; exact H
            clear H
            have H := H1
            clear H1
            obtain rfl := Option.some.inj H
            go_wp2_with (first | ((with_reducible refine gate_callee (f := 15) rfl ?_); refine goesL_ (some 37) rfl rfl Try.func15 (by kernel_rfl) rfl #[.slice A0 l0.length c0] rfl (by (try simp only [List.map_toArray, List.map_cons, List.map_nil]); first | done | rfl | (simp only [List.length_drop, List.length_take]; rfl)) ?_; (with_reducible refine (laws_toOrderS.calls kj8 _ _ l0 t211 _ ?side1 ?side2 A19.out).mono ?_); (case side1 => repeat (first | exact (Kd.C_below HR0.out HB.out) | (with_reducible refine Kd.C_alloc ?_ _) | (with_reducible refine Kd.C_drewN ?_ _) | (with_reducible refine Kd.C_drew ?_))); (case side2 => exact HC0.out); rintro e w22 ⟨v212, rfl, ho0, hb⟩; refine ⟨_, rfl, ?_⟩; have n0_ := Aside0.mk (Kd.R_elder' (by (with_reducible repeat (first | apply Kd.R_alloc | apply Kd.R_drewN | apply Kd.R_drew)); exact HO_6.out) (Kd.R_base ho0) hb); have n1_ := Aside0.mk (Kd.R_lower (Kd.R_new' ho0 (Kd.R_lt (by (with_reducible repeat (first | apply Kd.R_alloc | apply Kd.R_drewN | apply Kd.R_drew)); exact HO_6.out))) (below_size (by repeat (first | (with_reducible first | exact HB.out | apply below_alloc | apply pw_below_drewN | apply below_drew1) | exact HB.out)))); have n2_ := Aside0.mk (below_step (by repeat (first | (with_reducible first | exact HB.out | apply below_alloc | apply pw_below_drewN | apply below_drew1) | exact HB.out)) hb); clear HO_6; clear HB; have HO_6 := n0_; have HO213 := n1_; have HB := n2_; clear n0_ n1_ n2_; (try clear hb); (try clear hb2); (try clear hk); (try clear hi); (try clear ho0); obtain ⟨Ao23, co23, eo23⟩ := Kd.R_slice HO213.out; subst eo23) | ((with_reducible refine gate_callee (f := 17) rfl ?_); refine goesL_ (some 38) rfl rfl Try.func17 (by kernel_rfl) rfl #[.slice Ao15 t206.length co15, .slice Ao23 t211.length co23] rfl (by (try simp only [List.map_toArray, List.map_cons, List.map_nil]); first | done | rfl | (simp only [List.length_drop, List.length_take]; rfl)) ?_; (with_reducible refine (laws_eqOrderS.calls kj8 _ _ t206 _ _ t211 true _ ?side1 ?side2 ?side3 ?side4 A20.out).mono ?_); (case side1 => repeat (first | exact (Kd.R_reads' HO_6.out).2.2 | (with_reducible refine Kd.C_alloc ?_ _) | (with_reducible refine Kd.C_drewN ?_ _) | (with_reducible refine Kd.C_drew ?_))); (case side2 => exact (Kd.R_reads' HO_6.out).2.1); (case side3 => repeat (first | exact (Kd.R_reads' HO213.out).2.2 | (with_reducible refine Kd.C_alloc ?_ _) | (with_reducible refine Kd.C_drewN ?_ _) | (with_reducible refine Kd.C_drew ?_))); (case side4 => exact (Kd.R_reads' HO213.out).2.1); rintro e w24 ⟨rfl, hb⟩; refine ⟨_, rfl, ?_⟩; have n0_ := Aside0.mk (Kd.R_below (by (with_reducible repeat (first | apply Kd.R_alloc | apply Kd.R_drewN | apply Kd.R_drew)); exact HO_6.out) hb); have n1_ := Aside0.mk (Kd.R_below (by (with_reducible repeat (first | apply Kd.R_alloc | apply Kd.R_drewN | apply Kd.R_drew)); exact HO213.out) hb); have n2_ := Aside0.mk (below_step (by repeat (first | (with_reducible first | exact HB.out | apply below_alloc | apply pw_below_drewN | apply below_drew1) | exact HB.out)) hb); clear HO_6; clear HO213; clear HB; have HO_6 := n0_; have HO213 := n1_; have HB := n2_; clear n0_ n1_ n2_; (try clear hb); (try clear hb2); (try clear hk); (try clear hi)))
            go_ret
            exact ⟨by first | rfl | (simp [errW_none, errW_some] <;> rfl) | (simp [*, errW_none, errW_some] <;> rfl), by repeat (first | (with_reducible first | exact HB.out | apply below_alloc | apply pw_below_drewN | apply below_drew1) | exact HB.out)⟩
          · replace c21 := Bool.eq_false_iff.mpr c21
            subst c21
            have H1 : (some false) = some r := by rw [if_neg (show ¬ (false = true) by decide)] at H; exact H
            clear H
            have H := H1
            clear H1
            obtain rfl := Option.some.inj H
            go_wp2_with (first | ((with_reducible refine gate_callee (f := 15) rfl ?_); refine goesL_ (some 37) rfl rfl Try.func15 (by kernel_rfl) rfl #[.slice A0 l0.length c0] rfl (by (try simp only [List.map_toArray, List.map_cons, List.map_nil]); first | done | rfl | (simp only [List.length_drop, List.length_take]; rfl)) ?_; (with_reducible refine (laws_toOrderS.calls kj8 _ _ l0 t211 _ ?side1 ?side2 A19.out).mono ?_); (case side1 => repeat (first | exact (Kd.C_below HR0.out HB.out) | (with_reducible refine Kd.C_alloc ?_ _) | (with_reducible refine Kd.C_drewN ?_ _) | (with_reducible refine Kd.C_drew ?_))); (case side2 => exact HC0.out); rintro e w25 ⟨v212, rfl, ho0, hb⟩; refine ⟨_, rfl, ?_⟩; have n0_ := Aside0.mk (Kd.R_elder' (by (with_reducible repeat (first | apply Kd.R_alloc | apply Kd.R_drewN | apply Kd.R_drew)); exact HO_6.out) (Kd.R_base ho0) hb); have n1_ := Aside0.mk (Kd.R_lower (Kd.R_new' ho0 (Kd.R_lt (by (with_reducible repeat (first | apply Kd.R_alloc | apply Kd.R_drewN | apply Kd.R_drew)); exact HO_6.out))) (below_size (by repeat (first | (with_reducible first | exact HB.out | apply below_alloc | apply pw_below_drewN | apply below_drew1) | exact HB.out)))); have n2_ := Aside0.mk (below_step (by repeat (first | (with_reducible first | exact HB.out | apply below_alloc | apply pw_below_drewN | apply below_drew1) | exact HB.out)) hb); clear HO_6; clear HB; have HO_6 := n0_; have HO213 := n1_; have HB := n2_; clear n0_ n1_ n2_; (try clear hb); (try clear hb2); (try clear hk); (try clear hi); (try clear ho0); obtain ⟨Ao26, co26, eo26⟩ := Kd.R_slice HO213.out; subst eo26) | ((with_reducible refine gate_callee (f := 17) rfl ?_); refine goesL_ (some 38) rfl rfl Try.func17 (by kernel_rfl) rfl #[.slice Ao15 t206.length co15, .slice Ao26 t211.length co26] rfl (by (try simp only [List.map_toArray, List.map_cons, List.map_nil]); first | done | rfl | (simp only [List.length_drop, List.length_take]; rfl)) ?_; (with_reducible refine (laws_eqOrderS.calls kj8 _ _ t206 _ _ t211 false _ ?side1 ?side2 ?side3 ?side4 A20.out).mono ?_); (case side1 => repeat (first | exact (Kd.R_reads' HO_6.out).2.2 | (with_reducible refine Kd.C_alloc ?_ _) | (with_reducible refine Kd.C_drewN ?_ _) | (with_reducible refine Kd.C_drew ?_))); (case side2 => exact (Kd.R_reads' HO_6.out).2.1); (case side3 => repeat (first | exact (Kd.R_reads' HO213.out).2.2 | (with_reducible refine Kd.C_alloc ?_ _) | (with_reducible refine Kd.C_drewN ?_ _) | (with_reducible refine Kd.C_drew ?_))); (case side4 => exact (Kd.R_reads' HO213.out).2.1); rintro e w27 ⟨rfl, hb⟩; refine ⟨_, rfl, ?_⟩; have n0_ := Aside0.mk (Kd.R_below (by (with_reducible repeat (first | apply Kd.R_alloc | apply Kd.R_drewN | apply Kd.R_drew)); exact HO_6.out) hb); have n1_ := Aside0.mk (Kd.R_below (by (with_reducible repeat (first | apply Kd.R_alloc | apply Kd.R_drewN | apply Kd.R_drew)); exact HO213.out) hb); have n2_ := Aside0.mk (below_step (by repeat (first | (with_reducible first | exact HB.out | apply below_alloc | apply pw_below_drewN | apply below_drew1) | exact HB.out)) hb); clear HO_6; clear HO213; clear HB; have HO_6 := n0_; have HO213 := n1_; have HB := n2_; clear n0_ n1_ n2_; (try clear hb); (try clear hb2); (try clear hk); (try clear hi)))
            go_ret
            exact ⟨by first | rfl | (simp [errW_none, errW_some] <;> rfl) | (simp [*, errW_none, errW_some] <;> rfl), by repeat (first | (with_reducible first | exact HB.out | apply below_alloc | apply pw_below_drewN | apply below_drew1) | exact HB.out)⟩

end Go.Proofs.Ytedidhfmknhlkaa.QFnExactNextOrder
