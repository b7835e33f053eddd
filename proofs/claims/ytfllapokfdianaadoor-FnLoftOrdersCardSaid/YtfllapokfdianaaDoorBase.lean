import Derived.Test.YtfllapokfdianaaDoorWWords
import Derived.DataShut
namespace Go.Proofs.YtfllapokfdianaaDoor.Base
open Go.RowKit Go.Proofs.YtfllapokfdianaaDoorW.PrintWords
theorem w64 {x : Int} (h0 : -9223372036854775808 ≤ x) (h1 : x ≤ 9223372036854775807) : wrap64 x = x := by unfold wrap64; omega
theorem tmod_nn {a b : Int} (h : 0 ≤ a) : Int.tmod a b = a % b := Int.tmod_eq_emod_of_nonneg h
theorem ite_bool (b : Bool) : (if b = true then true else false) = b := by cases b <;> rfl
theorem Ev.pick {α : Type} {g : Nat → Option α} {r : α} (h : Ev g r) : ∃ K, ∀ k, K ≤ k → g k = some r := h
theorem Ev.intro {α : Type} {g : Nat → Option α} {r : α} (K : Nat) (h : ∀ k, K ≤ k → g k = some r) : Ev g r := ⟨K, h⟩
theorem Ev.one {α : Type} {g : Nat → Option α} {r q : α} (h : Ev g r) (k : Ev g q) : r = q := by
  obtain ⟨K, h⟩ := h
  obtain ⟨J, k⟩ := k
  have := (h (max K J) (by omega)).symm.trans (k (max K J) (by omega))
  injection this
theorem Ev.succ {α : Type} {g : Nat → Option α} {r : α} (h : Ev (fun k => g (k + 1)) r) : Ev g r := Ev.step (fun _ => rfl) h
theorem Ev.const {α : Type} {g : Nat → Option α} {r : α} (h : ∀ k, g (k + 1) = some r) : Ev g r := ⟨1, fun k hk => by obtain ⟨m, rfl⟩ : ∃ m, k = m + 1 := ⟨k - 1, by omega⟩; exact h m⟩
theorem Ev.all {α : Type} {g : Nat → Option α} {r : α} (h : ∀ k, g k = some r) : Ev g r := ⟨0, fun k _ => h k⟩
theorem for_ev {σ ρ : Type} (n : Nat) (loop : Nat → σ → Int → Option ρ) (I : Nat → σ → Prop) (Q : ρ → Prop)
    (round : ∀ (i : Nat) s, i < n → I i s → (∃ s', I (i + 1) s' ∧ ∃ K, ∀ k, K ≤ k → loop (k + 1) s (i : Int) = loop k s' ((i : Int) + 1)) ∨ (∃ r, Q r ∧ Ev (fun k => loop k s (i : Int)) r))
    (fin : ∀ s, I n s → ∃ r, Q r ∧ Ev (fun k => loop k s (n : Int)) r) :
    ∀ (d i : Nat) s, i + d = n → I i s → ∃ r, Q r ∧ Ev (fun k => loop k s (i : Int)) r := by
  intro d
  induction d with
  | zero =>
    intro i s hi hI
    obtain rfl : i = n := by omega
    exact fin s hI
  | succ d ih =>
    intro i s hi hI
    rcases round i s (by omega) hI with ⟨s', hI', K, hK⟩ | h
    · obtain ⟨r, hq, J, hJ⟩ := ih (i + 1) s' (by omega) hI'
      refine ⟨r, hq, max K J + 1, fun k hk => ?_⟩
      obtain ⟨m, rfl⟩ : ∃ m, k = m + 1 := ⟨k - 1, by omega⟩
      have := hJ m (by omega)
      have h2 := hK m (by omega)
      rw [show ((i + 1 : Nat) : Int) = (i : Int) + 1 from rfl] at this
      exact h2.trans this
    · exact h
theorem for_to {σ ρ : Type} (n : Nat) (loop : Nat → σ → Int → Option ρ) (st : Nat → σ) (r : ρ)
    (round : ∀ (i : Nat), i < n → ∃ K, ∀ k, K ≤ k → loop (k + 1) (st i) (i : Int) = loop k (st (i + 1)) ((i : Int) + 1))
    (fin : Ev (fun k => loop k (st n) (n : Int)) r) : ∀ (d i : Nat), i + d = n → Ev (fun k => loop k (st i) (i : Int)) r := by
  intro d i hi
  obtain ⟨q, rfl, h⟩ := for_ev n loop (fun i s => s = st i) (fun q => q = r) (fun i s hi hs => by subst hs; exact .inl ⟨_, rfl, round i hi⟩) (fun s hs => by subst hs; exact ⟨r, rfl, fin⟩) d i (st i) hi rfl
  exact h
theorem rd_nat (xs : List Int) (i : Nat) (h : i < xs.length) : rd xs (i : Int) = xs[i] := by
  unfold rd; rw [Int.toNat_natCast, List.getD_eq_getElem?_getD, List.getElem?_eq_getElem h]; rfl
theorem go_to {ρ : Type} (n : Nat) (loop : Nat → Int → Option ρ) (r : ρ) (round : ∀ (i : Nat), i < n → ∃ K, ∀ k, K ≤ k → loop (k + 1) (i : Int) = loop k ((i : Int) + 1)) (fin : Ev (fun k => loop k (n : Int)) r) : Ev (fun k => loop k 0) r :=
  for_to n (fun k (_ : Unit) i => loop k i) (fun _ => ()) r round fin n 0 (by omega)
theorem all_lt {ρ : Type} (n : Nat) (p : Nat → Bool) (loop : Nat → Int → Option ρ) (r q : ρ) (yes : ∀ i, i < n → p i = true → ∃ K, ∀ k, K ≤ k → loop (k + 1) (i : Int) = loop k ((i : Int) + 1))
    (no : ∀ i, i < n → p i = false → Ev (fun k => loop k (i : Int)) q) (fin : (∀ i, i < n → p i = true) → Ev (fun k => loop k (n : Int)) r) : Ev (fun k => loop k 0) (if (List.range n).all p = true then r else q) := by
  by_cases ha : (List.range n).all p = true
  · rw [if_pos ha]
    have h : ∀ i, i < n → p i = true := fun i hi => List.all_eq_true.1 ha i (List.mem_range.2 hi)
    exact go_to n loop r (fun i hi => yes i hi (h i hi)) (fin h)
  · rw [if_neg ha]
    have key : ∀ (d i : Nat), i + d = n → (List.range' i d).all p = false → Ev (fun k => loop k (i : Int)) q := by
      intro d
      induction d with
      | zero => intro i hi h; simp at h
      | succ d ih =>
        intro i hi h
        rw [List.range'_succ, List.all_cons] at h
        cases hp : p i with
        | false => exact no i (by omega) hp
        | true =>
          rw [hp, Bool.true_and] at h
          obtain ⟨K, hK⟩ := yes i (by omega) hp
          obtain ⟨J, hJ⟩ := ih (i + 1) (by omega) h
          refine ⟨max K J + 1, fun k hk => ?_⟩
          obtain ⟨m, rfl⟩ : ∃ m, k = m + 1 := ⟨k - 1, by omega⟩
          have h1 := hJ m (by omega)
          rw [show ((i + 1 : Nat) : Int) = (i : Int) + 1 from rfl] at h1
          exact (hK m (by omega)).trans h1
    have := key n 0 (by omega) (by rw [← List.range_eq_range']; exact Bool.eq_false_iff.mpr ha)
    exact this
theorem all_range {n : Nat} {p : Nat → Bool} : (List.range n).all p = true ↔ ∀ i, i < n → p i = true := by
  rw [List.all_eq_true]
  exact ⟨fun h i hi => h i (List.mem_range.2 hi), fun h i hi => h i (List.mem_range.1 hi)⟩
theorem sum_take_succ (l : List Int) (i : Nat) (h : i < l.length) : (l.take (i + 1)).sum = (l.take i).sum + l[i] := by
  rw [List.take_succ_eq_append_getElem h, List.sum_append]; simp
theorem sum_bound (A B : Int) (l : List Int) (h : ∀ x ∈ l, A ≤ x ∧ x ≤ B) : A * l.length ≤ l.sum ∧ l.sum ≤ B * l.length := by
  induction l with
  | nil => simp
  | cons a l ih =>
    have h1 := h a List.mem_cons_self
    obtain ⟨i1, i2⟩ := ih (fun x hx => h x (List.mem_cons_of_mem _ hx))
    rw [List.sum_cons, List.length_cons, Int.natCast_add, Int.mul_add, Int.mul_add]
    simp only [Int.natCast_one, Int.mul_one]
    omega
theorem sum_take_bound {A B : Int} {l : List Int} (h : ∀ x ∈ l, A ≤ x ∧ x ≤ B) (i : Nat) (hi : i ≤ l.length) : A * i ≤ (l.take i).sum ∧ (l.take i).sum ≤ B * i := by
  have := sum_bound A B (l.take i) (fun x hx => h x (List.mem_of_mem_take hx))
  rwa [List.length_take, Nat.min_eq_left hi] at this
end Go.Proofs.YtfllapokfdianaaDoor.Base
