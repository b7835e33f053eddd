import Derived.Test.YtkoeeajciciphaaGreatDoorWWords
import Derived.Deep.Slices
import Derived.Deep.Fields
import Derived.ChangeSame
import Derived.ChangeArms
namespace Go.Proofs.YtkoeeajciciphaaGreatDoor.Reader
open Go.ChangeShapes Go.WideShapes Go.Deep Go.RowKit Go.Proofs.YtkoeeajciciphaaGreatDoorW.PrintWords
section
variable {H : Type} {enc : TypeId × Value → H} {P : Program} {w : World} {base : Nat} {spare : Nat → Bool} {held : Bool} {α β : Type}
def Rd (enc : TypeId × Value → H) (P : Program) (w : World) (base : Nat) (spare : Nat → Bool) (held : Bool) (t : TypeId) (d : Kd α) (G : α → Prop) : Prop :=
  ∀ (fuel : Nat) (cs : List Value) (x : DataW H × List MemPlace), DataW.trod enc P w base spare held fuel t cs = some x → ∃ v : α, d.K w v cs ∧ G v
def Seg (enc : TypeId × Value → H) (P : Program) (w : World) (base : Nat) (spare : Nat → Bool) (held : Bool) (fs : List Field) (off : Nat) (d : Kd α) (G : α → Prop) : Prop :=
  ∀ (cs : List Value), (∀ f ∈ fs, ∃ n y, DataW.trod enc P w base spare held n f.type ((cs.drop f.offset).take (P.cellsOf f.type)) = some y) → ∃ v : α, d.K w v ((cs.drop off).take d.sz) ∧ G v
theorem rd_int {t : TypeId} {k : IntKind} (ht : P.underlying t = some (.int k)) : Rd enc P w base spare held t (Kd.int k) (fun n => (Lit.int k n).wf = true) := by
  intro fuel cs x h
  cases fuel with
  | zero => simp [DataW.trod] at h
  | succ n =>
    unfold DataW.trod at h
    rw [ht] at h
    split at h <;> simp_all
    exact ⟨_, rfl, h.1.2⟩
theorem rd_string {t : TypeId} (ht : P.underlying t = some .string) : Rd enc P w base spare held t Kd.string (fun s => s.size ≤ maxLen) := by
  intro fuel cs x h
  cases fuel with
  | zero => simp [DataW.trod] at h
  | succ n =>
    unfold DataW.trod at h
    rw [ht] at h
    split at h <;> simp_all
    exact ⟨_, rfl, h.1⟩
theorem rd_slice {t e q : TypeId} {d : Kd α} {G : α → Prop} (ht : P.underlying t = some (.slice e)) (hc : P.cellsOf e = d.sz) (he : Rd enc P w base spare held e d G) :
    Rd enc P w base spare held t (Kd.slice q d) (fun xs => xs.length ≤ maxLen ∧ ∀ x ∈ xs, G x) := by
  intro fuel cs x h
  rcases open_slice ht h with ⟨rfl, _⟩ | ⟨a, len, cap, m, n, D, Pl, rfl, _, hl, hm, hmm, _, hi⟩
  · exact ⟨[], ⟨none, 0, rfl, by simp, rfl, by simp, fun h => absurd h (by simp)⟩, by simp, by simp⟩
  · have hlm : len ≤ m := by rw [hmm]; split <;> omega
    have key : ∀ i : Fin len, ∃ v : α, G v ∧ ∃ c, c.length = d.sz ∧ d.K w v c ∧ ∀ j u, c[j]? = some u → w.cell? (a.add (i.val * d.sz + j)) = some u := by
      intro i
      obtain ⟨cs', h1, h2⟩ := hi i.val (by omega)
      obtain ⟨v, hk, hg⟩ := he _ _ _ h2
      obtain ⟨_, hcl, hat⟩ := World.cells?_some h1
      refine ⟨v, hg, cs', d.K_len hk, hk, fun j u hu => ?_⟩
      have hj : j < P.cellsOf e := by have := (List.getElem?_eq_some_iff.1 hu).1; omega
      have := hat j hj
      rw [Go.Deep.add_add, hc] at this
      rw [this, hu]
    let V : Fin len → α := fun i => Classical.choose (key i)
    have hV : ∀ i, G (V i) ∧ ∃ c, c.length = d.sz ∧ d.K w (V i) c ∧ ∀ j u, c[j]? = some u → w.cell? (a.add (i.val * d.sz + j)) = some u := fun i => Classical.choose_spec (key i)
    refine ⟨List.ofFn V, ⟨some a, cap, by rw [List.length_ofFn], by rw [List.length_ofFn]; exact hl, rfl, by rw [List.length_ofFn]; unfold maxLen at hm; omega, fun _ => ⟨a, rfl, fun j p hj => ?_⟩⟩, by rw [List.length_ofFn]; omega, fun x hx => ?_⟩
    · obtain ⟨hj1, hj2⟩ := List.getElem?_eq_some_iff.1 hj
      rw [List.length_ofFn] at hj1
      rw [List.getElem_ofFn] at hj2
      subst hj2
      exact (hV ⟨j, hj1⟩).2
    · obtain ⟨i, rfl⟩ := List.mem_ofFn.1 hx
      exact (hV i).1
theorem rd_iso {t : TypeId} {d : Kd α} {G : α → Prop} (h : Rd enc P w base spare held t d G) (f : β → α) (g : α → β) (hfg : ∀ a, f (g a) = a) : Rd enc P w base spare held t (Kd.iso d f) (fun x => G (f x)) := by
  intro fuel cs x hx
  obtain ⟨v, hk, hg⟩ := h fuel cs x hx
  exact ⟨g v, by show d.K w (f (g v)) cs; rw [hfg]; exact hk, by show G (f (g v)); rw [hfg]; exact hg⟩
theorem rd_imp {t : TypeId} {d : Kd α} {G G' : α → Prop} (h : Rd enc P w base spare held t d G) (hi : ∀ x, G x → G' x) : Rd enc P w base spare held t d G' := by
  intro fuel cs x hx
  obtain ⟨v, hk, hg⟩ := h fuel cs x hx
  exact ⟨v, hk, hi _ hg⟩
theorem seg_one {f : Field} {off : Nat} {d : Kd α} {G : α → Prop} (ho : f.offset = off) (hc : P.cellsOf f.type = d.sz) (h : Rd enc P w base spare held f.type d G) : Seg enc P w base spare held [f] off d G := by
  intro cs hf
  obtain ⟨n, y, hy⟩ := hf f List.mem_cons_self
  rw [ho, hc] at hy
  exact h _ _ _ hy
theorem seg_cons {f : Field} {fs : List Field} {off off' : Nat} {d : Kd α} {d' : Kd β} {G : α → Prop} {G' : β → Prop} (ho : f.offset = off) (hc : P.cellsOf f.type = d.sz) (ho' : off + d.sz = off') (h : Rd enc P w base spare held f.type d G)
    (hs : Seg enc P w base spare held fs off' d' G') : Seg enc P w base spare held (f :: fs) off (Kd.pair d d') (fun v => G v.1 ∧ G' v.2) := by
  intro cs hf
  subst ho'
  obtain ⟨n, y, hy⟩ := hf f List.mem_cons_self
  rw [ho, hc] at hy
  obtain ⟨v, hk, hg⟩ := h _ _ _ hy
  obtain ⟨v', hk', hg'⟩ := hs cs (fun f' h' => hf f' (List.mem_cons_of_mem _ h'))
  refine ⟨(v, v'), ⟨_, _, ?_, hk, hk'⟩, hg, hg'⟩
  show ((cs.drop off).take (d.sz + d'.sz)) = _
  rw [List.take_add, List.drop_drop]
theorem rd_struct {t : TypeId} {fs : Array Field} {d : Kd α} {G : α → Prop} (ht : P.underlying t = some (.struct fs)) (hc : P.cellsOf t = d.sz) (hs : Seg enc P w base spare held fs.toList 0 d G) : Rd enc P w base spare held t d G := by
  intro fuel cs x h
  obtain ⟨xs, n, _, _, hl, hlen, hf⟩ := DataW.trod_struct ht h
  obtain ⟨v, hk, hg⟩ := hs cs (fun f hf' => by
    obtain ⟨j, hj, rfl⟩ := List.getElem_of_mem hf'
    have hja : j < fs.size := by simpa using hj
    have := hf j (fs[j]) (Array.getElem?_eq_getElem hja)
    rw [List.getElem?_eq_getElem (by omega)] at this
    exact ⟨n, _, by simpa using this⟩)
  refine ⟨v, ?_, hg⟩
  rwa [List.drop_zero, List.take_of_length_le (by omega)] at hk
end
end Go.Proofs.YtkoeeajciciphaaGreatDoor.Reader
