import Derived.Test.YtkoeeajciciphaaGreatDoorWWords
import Derived.DataShut
namespace Go.Proofs.YtkoeeajciciphaaGreatDoor.Base
open Go.RowKit Go.Proofs.YtkoeeajciciphaaGreatDoorW.PrintWords
theorem w64 {x : Int} (h0 : -9223372036854775808 ≤ x) (h1 : x ≤ 9223372036854775807) : wrap64 x = x := by unfold wrap64; omega
theorem tdiv_nn {a b : Int} (h : 0 ≤ a) : Int.tdiv a b = a / b := Int.tdiv_eq_ediv_of_nonneg h
theorem tmod_nn {a b : Int} (h : 0 ≤ a) : Int.tmod a b = a % b := Int.tmod_eq_emod_of_nonneg h
theorem ite_bool (b : Bool) : (if b = true then true else false) = b := by cases b <;> rfl
theorem Ev.pick {α : Type} {g : Nat → Option α} {r : α} (h : Ev g r) : ∃ K, ∀ k, K ≤ k → g k = some r := h
theorem Ev.intro {α : Type} {g : Nat → Option α} {r : α} (K : Nat) (h : ∀ k, K ≤ k → g k = some r) : Ev g r := ⟨K, h⟩
theorem Ev.one {α : Type} {g : Nat → Option α} {r q : α} (h : Ev g r) (k : Ev g q) : r = q := by
  obtain ⟨K, h⟩ := h
  obtain ⟨J, k⟩ := k
  have := (h (max K J) (by omega)).symm.trans (k (max K J) (by omega))
  injection this
theorem Ev.succ {α : Type} {g : Nat → Option α} {r : α} (h : Ev (fun k => g (k + 1)) r) : Ev g r := Ev.step (fun _ => rfl) h
theorem Ev.const {α : Type} {g : Nat → Option α} {r : α} (h : ∀ k, g (k + 1) = some r) : Ev g r := ⟨1, fun k hk => by obtain ⟨m, rfl⟩ : ∃ m, k = m + 1 := ⟨k - 1, by omega⟩; exact h m⟩
theorem Ev.all {α : Type} {g : Nat → Option α} {r : α} (h : ∀ k, g k = some r) : Ev g r := ⟨0, fun k _ => h k⟩
theorem for_ev {σ ρ : Type} (n : Nat) (loop : Nat → σ → Int → Option ρ) (I : Nat → σ → Prop) (Q : ρ → Prop)
    (round : ∀ (i : Nat) s, i < n → I i s → (∃ s', I (i + 1) s' ∧ ∃ K, ∀ k, K ≤ k → loop (k + 1) s (i : Int) = loop k s' ((i : Int) + 1)) ∨ (∃ r, Q r ∧ Ev (fun k => loop k s (i : Int)) r))
    (fin : ∀ s, I n s → ∃ r, Q r ∧ Ev (fun k => loop k s (n : Int)) r) :
    ∀ (d i : Nat) s, i + d = n → I i s → ∃ r, Q r ∧ Ev (fun k => loop k s (i : Int)) r := by
  intro d
  induction d with
  | zero =>
    intro i s hi hI
    obtain rfl : i = n := by omega
    exact fin s hI
  | succ d ih =>
    intro i s hi hI
    rcases round i s (by omega) hI with ⟨s', hI', K, hK⟩ | h
    · obtain ⟨r, hq, J, hJ⟩ := ih (i + 1) s' (by omega) hI'
      refine ⟨r, hq, max K J + 1, fun k hk => ?_⟩
      obtain ⟨m, rfl⟩ : ∃ m, k = m + 1 := ⟨k - 1, by omega⟩
      have := hJ m (by omega)
      have h2 := hK m (by omega)
      rw [show ((i + 1 : Nat) : Int) = (i : Int) + 1 from rfl] at this
      exact h2.trans this
    · exact h
theorem for_to {σ ρ : Type} (n : Nat) (loop : Nat → σ → Int → Option ρ) (st : Nat → σ) (r : ρ)
    (round : ∀ (i : Nat), i < n → ∃ K, ∀ k, K ≤ k → loop (k + 1) (st i) (i : Int) = loop k (st (i + 1)) ((i : Int) + 1))
    (fin : Ev (fun k => loop k (st n) (n : Int)) r) : ∀ (d i : Nat), i + d = n → Ev (fun k => loop k (st i) (i : Int)) r := by
  intro d i hi
  obtain ⟨q, rfl, h⟩ := for_ev n loop (fun i s => s = st i) (fun q => q = r) (fun i s hi hs => by subst hs; exact .inl ⟨_, rfl, round i hi⟩) (fun s hs => by subst hs; exact ⟨r, rfl, fin⟩) d i (st i) hi rfl
  exact h
theorem fill_to {α β : Type} (l : List α) (c : α → β) (loop : Nat → List β → Int → Option (List β))
    (round : ∀ k acc (i : Nat) (h : i < l.length), acc.length = l.length → loop (k + 1) acc (i : Int) = loop k (acc.set i (c l[i])) ((i : Int) + 1))
    (fin : ∀ k acc, loop (k + 1) acc (l.length : Int) = some acc) (acc : List β) (hl : acc.length = l.length) : Ev (fun k => loop k acc 0) (l.map c) := by
  have h := for_ev l.length loop (fun i a => a.length = l.length ∧ a.take i = (l.map c).take i) (fun r => r = l.map c) (fun i s hi hs => .inl ⟨s.set i (c l[i]), ⟨by rw [List.length_set]; exact hs.1, ?_⟩, 0, fun k _ => round k s i hi hs.1⟩) (fun s hs => ?_) l.length 0 acc (by omega) ⟨hl, by simp⟩
  · obtain ⟨r, rfl, h⟩ := h
    exact h
  · apply List.ext_getElem?
    intro j
    rw [List.getElem?_take, List.getElem?_take]
    by_cases hj : j < i + 1
    · rw [if_pos hj, if_pos hj]
      by_cases hji : j = i
      · subst hji
        rw [List.getElem?_set_self (by omega), List.getElem?_map, List.getElem?_eq_getElem hi]; rfl
      · rw [List.getElem?_set_ne (by omega)]
        have := congrArg (fun x => x[j]?) hs.2
        simp only [List.getElem?_take] at this
        rw [if_pos (by omega), if_pos (by omega)] at this
        exact this
    · rw [if_neg hj, if_neg hj]
  · refine ⟨s, ?_, Ev.const (fun k => fin k s)⟩
    have h2 := hs.2
    rw [List.take_of_length_le (by omega), List.take_of_length_le (by simp)] at h2
    exact h2
theorem go_to {ρ : Type} (n : Nat) (loop : Nat → Int → Option ρ) (r : ρ) (round : ∀ (i : Nat), i < n → ∃ K, ∀ k, K ≤ k → loop (k + 1) (i : Int) = loop k ((i : Int) + 1)) (fin : Ev (fun k => loop k (n : Int)) r) : Ev (fun k => loop k 0) r :=
  for_to n (fun k (_ : Unit) i => loop k i) (fun _ => ()) r round fin n 0 (by omega)
theorem mark_to {β : Type} (n : Nat) (c m0 : Int) (mk : Int → β) (loop : Nat → List β → Int → Int → Option (Int × List β))
    (round : ∀ xs (i : Nat), i < n → xs.length = n → ∃ K, ∀ k, K ≤ k → loop (k + 1) xs (m0 + c * i) i = loop k (xs.set i (mk (m0 + c * i))) (m0 + c * (i + 1 : Nat)) ((i : Int) + 1))
    (fin : ∀ k xs, xs.length = n → loop (k + 1) xs (m0 + c * n) n = some (m0 + c * n, xs)) (xs : List β) (h : xs.length = n) :
    Ev (fun k => loop k xs m0 0) (m0 + c * n, (List.range n).map fun i : Nat => mk (m0 + c * i)) := by
  have h := for_ev n (fun k (s : List β × Int) i => loop k s.1 s.2 i) (fun i s => s.2 = m0 + c * i ∧ s.1.length = n ∧ s.1.take i = (List.range i).map fun i : Nat => mk (m0 + c * i)) (fun r => r = (m0 + c * n, (List.range n).map fun i : Nat => mk (m0 + c * i))) (fun i s hi hs => .inl ?_) (fun s hs => ?_) n 0 (xs, m0) (by omega) ⟨by simp, h, by simp⟩
  · obtain ⟨r, rfl, h⟩ := h
    exact h
  · obtain ⟨a, m⟩ := s
    obtain ⟨rfl, hl, ht⟩ := hs
    refine ⟨(a.set i (mk (m0 + c * i)), m0 + c * (i + 1 : Nat)), ⟨rfl, by simpa using hl, ?_⟩, round a i hi hl⟩
    show (a.set i (mk (m0 + c * i))).take (i + 1) = _
    have hl' : a.length = n := hl
    rw [List.range_succ, List.map_append, List.take_add_one, List.take_set_of_le (by omega), List.getElem?_set_self (by omega)]
    have ht' : a.take i = (List.range i).map fun i : Nat => mk (m0 + c * i) := ht
    rw [ht']
    rfl
  · obtain ⟨a, m⟩ := s
    obtain ⟨rfl, hl, ht⟩ := hs
    refine ⟨_, rfl, ?_⟩
    have hl' : a.length = n := hl
    have ht' : a.take n = (List.range n).map fun i : Nat => mk (m0 + c * i) := ht
    rw [List.take_of_length_le (by omega)] at ht'
    rw [← ht']
    exact Ev.const (fun k => fin k a hl)
theorem held_to (n : Nat) (c m0 : Int) (loop : Nat → Int → Int → Option Int)
    (round : ∀ (i : Nat), i < n → ∃ K, ∀ k, K ≤ k → loop (k + 1) (m0 + c * i) i = loop k (m0 + c * (i + 1 : Nat)) ((i : Int) + 1))
    (fin : ∀ k, loop (k + 1) (m0 + c * n) n = some (m0 + c * n)) : Ev (fun k => loop k m0 0) (m0 + c * n) := by
  have h := for_to n (fun k (s : Int) i => loop k s i) (fun i => m0 + c * i) (m0 + c * n) round (Ev.const fin) n 0 (by omega)
  simpa using h
theorem all_lt {ρ : Type} (n : Nat) (p : Nat → Bool) (loop : Nat → Int → Option ρ) (r q : ρ) (yes : ∀ i, i < n → p i = true → ∃ K, ∀ k, K ≤ k → loop (k + 1) (i : Int) = loop k ((i : Int) + 1))
    (no : ∀ i, i < n → p i = false → Ev (fun k => loop k (i : Int)) q) (fin : (∀ i, i < n → p i = true) → Ev (fun k => loop k (n : Int)) r) : Ev (fun k => loop k 0) (if (List.range n).all p = true then r else q) := by
  by_cases ha : (List.range n).all p = true
  · rw [if_pos ha]
    have h : ∀ i, i < n → p i = true := fun i hi => List.all_eq_true.1 ha i (List.mem_range.2 hi)
    exact go_to n loop r (fun i hi => yes i hi (h i hi)) (fin h)
  · rw [if_neg ha]
    have key : ∀ (d i : Nat), i + d = n → (List.range' i d).all p = false → Ev (fun k => loop k (i : Int)) q := by
      intro d
      induction d with
      | zero => intro i hi h; simp at h
      | succ d ih =>
        intro i hi h
        rw [List.range'_succ, List.all_cons] at h
        cases hp : p i with
        | false => exact no i (by omega) hp
        | true =>
          rw [hp, Bool.true_and] at h
          obtain ⟨K, hK⟩ := yes i (by omega) hp
          obtain ⟨J, hJ⟩ := ih (i + 1) (by omega) h
          refine ⟨max K J + 1, fun k hk => ?_⟩
          obtain ⟨m, rfl⟩ : ∃ m, k = m + 1 := ⟨k - 1, by omega⟩
          have h1 := hJ m (by omega)
          rw [show ((i + 1 : Nat) : Int) = (i : Int) + 1 from rfl] at h1
          exact (hK m (by omega)).trans h1
    have := key n 0 (by omega) (by rw [← List.range_eq_range']; exact Bool.eq_false_iff.mpr ha)
    exact this
theorem bwl_ {w W : World} (h : Below w.heap.size w W := by repeat (first | (with_reducible first | exact HB.out | apply below_alloc | apply pw_below_drewN | apply below_drew1 | refine below_set ?_ (Aside0.out (by assumption))) | exact HB.out)) : Below w.heap.size w W := h
theorem bst_ {w W w2 : World} (k : Below W.heap.size W w2) (h : Below w.heap.size w W := by repeat (first | (with_reducible first | exact HB.out | apply below_alloc | apply pw_below_drewN | apply below_drew1 | refine below_set ?_ (Aside0.out (by assumption))) | exact HB.out)) : Aside0 (Below w.heap.size w w2) := ⟨below_step h k⟩
theorem bsz_ {w W : World} {g : Nat} (hg : g = W.heap.size) (h : Below w.heap.size w W := by repeat (first | (with_reducible first | exact HB.out | apply below_alloc | apply pw_below_drewN | apply below_drew1 | refine below_set ?_ (Aside0.out (by assumption))) | exact HB.out)) : Aside0 (w.heap.size ≤ g) := ⟨by rw [hg]; exact below_size h⟩
theorem bkb_ {w0 w1 w2 : World} {g : Nat} {t : TypeId} {cs : Array Value} (h : Aside0 (w0.heap[g]? = some (.cells cs t (0, 0)))) (hb : Below w1.heap.size w1 w2) (k : w0.heap[g]? = some (.cells cs t (0, 0)) → w1.heap[g]? = some (.cells cs t (0, 0)) := by (intro h; (with_reducible repeat (first | refine blk_drewN ?_ _ | refine blk_drew ?_ | refine blk_alloc ?_ _ | refine blk_far ?_ (Aside0.out (by assumption)) _)); exact h)) : Aside0 (w2.heap[g]? = some (.cells cs t (0, 0))) := ⟨blk_below (k h.out) hb⟩
theorem nbl_ {w0 w1 : World} {g g' : Nat} {t : TypeId} {cs : Array Value} (h : Aside0 (w0.heap[g]? = some (.cells cs t (0, 0)))) (hg : g' = w1.heap.size) (k : w0.heap[g]? = some (.cells cs t (0, 0)) → w1.heap[g]? = some (.cells cs t (0, 0)) := by (intro h; (with_reducible repeat (first | refine blk_drewN ?_ _ | refine blk_drew ?_ | refine blk_alloc ?_ _ | refine blk_far ?_ (Aside0.out (by assumption)) _)); exact h)) : Aside0 (g ≠ g') := ⟨by rw [hg]; exact Nat.ne_of_lt (blk_lt (k h.out))⟩
theorem nbr_ {w0 w1 : World} {g g' : Nat} {t : TypeId} {cs : Array Value} (h : Aside0 (w0.heap[g]? = some (.cells cs t (0, 0)))) (hg : g' = w1.heap.size) (k : w0.heap[g]? = some (.cells cs t (0, 0)) → w1.heap[g]? = some (.cells cs t (0, 0)) := by (intro h; (with_reducible repeat (first | refine blk_drewN ?_ _ | refine blk_drew ?_ | refine blk_alloc ?_ _ | refine blk_far ?_ (Aside0.out (by assumption)) _)); exact h)) : Aside0 (g' ≠ g) := ⟨by rw [hg]; exact Nat.ne_of_gt (blk_lt (k h.out))⟩
theorem kbl_ {w W0 W : World} {g : Nat} {row : Option Nat} (h0 : Aside0 (KeepBut w W0 g row)) (k : KeepBut w W0 g row → KeepBut w W g row := by (intro h; repeat (first | (with_reducible first | exact h | apply KeepBut.set_ | apply keep_alloc | apply keep_drew | apply keep_drewN | refine keep_far ?_ (Aside0.out (by assumption)) _) | exact h))) : KeepBut w W g row := k h0.out
theorem bkm_ {w0 w1 : World} {g : Nat} {t : TypeId} {cs : Array Value} (h : Aside0 (w0.heap[g]? = some (.cells cs t (0, 0)))) (k : w0.heap[g]? = some (.cells cs t (0, 0)) → w1.heap[g]? = some (.cells cs t (0, 0)) := by (intro h; (with_reducible repeat (first | refine blk_drewN ?_ _ | refine blk_drew ?_ | refine blk_alloc ?_ _ | refine blk_far ?_ (Aside0.out (by assumption)) _)); exact h)) : Aside0 (w1.heap[g]? = some (.cells cs t (0, 0))) := ⟨k h.out⟩
end Go.Proofs.YtkoeeajciciphaaGreatDoor.Base
