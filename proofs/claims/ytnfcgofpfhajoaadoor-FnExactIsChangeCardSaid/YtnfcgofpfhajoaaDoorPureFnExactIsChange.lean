/- For all texts the program's IsChange and the reference's IsChange tell the same. -/
import Derived.Test.YtnfcgofpfhajoaaDoorQFnExactIsChangex2
import Derived.Test.YtnfcgofpfhajoaaDoorBase
namespace Go.Proofs.YtnfcgofpfhajoaaDoor.Pure
open Go.RowKit Go.Proofs.YtnfcgofpfhajoaaDoor.QFnExactIsChange Go.Proofs.YtnfcgofpfhajoaaDoorW.PrintWords Go.Proofs.YtnfcgofpfhajoaaDoorW.PrintLast Go.Proofs.YtnfcgofpfhajoaaDoor.Base
set_option linter.unusedVariables false
set_option linter.unusedSimpArgs false

namespace FnExactIsChange_
theorem bt_list (s : ByteArray) (i : Nat) (h : i < s.data.toList.length) : bt s (i : Int) = ((s.data.toList[i]).toNat : Int) := by
  unfold bt
  have h2 : i < s.size := by simpa using h
  rw [dif_pos (by simpa using h2)]
  rfl
theorem size_list (s : ByteArray) : s.size = s.data.toList.length := by rw [Array.length_toList]; rfl
/-- Two texts are one where their bytes are. -/
theorem bytes_ext {a b : ByteArray} (h : a.data.toList = b.data.toList) : a = b := by
  have h3 : a.data = b.data := Array.toList_inj.mp h
  cases a; cases b; exact congrArg ByteArray.mk h3
theorem toList_iff {a b : ByteArray} : a.toList = b.toList ↔ a = b := by
  constructor
  · intro h
    rw [ByteArray.toList_eq, ByteArray.toList_eq] at h
    exact bytes_ext h
  · intro h; rw [h]

/-- A text cut at all places of one byte, as the library tells it. -/
def S1 (c : UInt8) (s : ByteArray) : List ByteArray := Lib.splitB (⟨#[c]⟩ : ByteArray) 0 (Lib.countB s (⟨#[c]⟩ : ByteArray)) s
theorem bt_get {s : ByteArray} {c : UInt8} {i : Nat} (hi : i < s.size) : s.data.toList[i]? = some c ↔ bt s (i : Int) = (c.toNat : Int) := by
  have h2 : i < s.data.toList.length := by rw [← size_list]; exact hi
  rw [List.getElem?_eq_getElem h2, bt_list s i h2]
  constructor
  · intro h
    injection h with h
    rw [h]
  · intro h
    congr 1
    apply UInt8.toNat_inj.mp
    omega
theorem S1_none {c : UInt8} {s : ByteArray} (h : ∀ i : Nat, i < s.size → ¬ bt s (i : Int) = (c.toNat : Int)) : S1 c s = [s] := by
  rcases Lib.indexB_cases s (⟨#[c]⟩ : ByteArray) with e | ⟨i, e, hr⟩
  · exact Lib.splitB_miss _ _ _ _ e
  · exfalso
    have hi : i < s.size := by have : (⟨#[c]⟩ : ByteArray).size = 1 := rfl; omega
    have e2 : Lib.indexByte s.data.toList c = (i : Int) := by rw [← Lib.index_one]; exact e
    exact h i hi ((bt_get hi).mp (Lib.indexByte_some e2).1)
theorem S1_hit {c : UInt8} {s : ByteArray} {i : Nat} (hi : i < s.size) (hc : bt s (i : Int) = (c.toNat : Int)) (h : ∀ j : Nat, j < i → ¬ bt s (j : Int) = (c.toNat : Int)) : S1 c s = s.extract 0 i :: S1 c (s.extract (i + 1) s.size) := by
  rcases Lib.indexB_cases s (⟨#[c]⟩ : ByteArray) with e | ⟨o, e, hr⟩
  · exfalso
    have e2 : Lib.indexByte s.data.toList c = -1 := by rw [← Lib.index_one]; exact e
    exact Lib.indexByte_none e2 i ((bt_get hi).mpr hc)
  · have e2 : Lib.indexByte s.data.toList c = (o : Int) := by rw [← Lib.index_one]; exact e
    obtain ⟨p1, p2⟩ := Lib.indexByte_some e2
    have ho : o < s.size := by have : (⟨#[c]⟩ : ByteArray).size = 1 := rfl; omega
    have hoi : o = i := by
      rcases Nat.lt_trichotomy o i with l | l | l
      · exact absurd ((bt_get ho).mp p1) (h o l)
      · exact l
      · exact absurd ((bt_get hi).mpr hc) (p2 i l)
    subst hoi
    unfold S1
    rw [Lib.countB_hit s (⟨#[c]⟩ : ByteArray) o (Nat.le_refl 1) e, Nat.add_comm 1, Lib.splitB_hit _ _ _ _ o e]
    rfl

theorem bt_ext (s : ByteArray) (a b j : Nat) (h : a + j < b) (hb : b ≤ s.size) : bt (s.extract a b) (j : Int) = bt s ((a + j : Nat) : Int) := by
  have h0 : (s.extract a b).data.toList = (s.data.toList.drop a).take (b - a) := Lib.extract_data s a b
  have h2 : a + j < s.data.toList.length := by rw [← size_list]; omega
  have h1 : j < (s.extract a b).data.toList.length := by rw [h0, List.length_take, List.length_drop]; omega
  rw [bt_list _ j h1, bt_list s (a + j) h2]
  have e := congrArg (fun l => l[j]?) h0
  rw [List.getElem?_eq_getElem h1, List.getElem?_take, if_pos (by omega), List.getElem?_drop, List.getElem?_eq_getElem h2, Option.some.injEq] at e
  rw [e]
theorem split_loop (s : ByteArray) (c : UInt8) (hs : s.size ≤ 1048576) : ∀ (d i fr : Nat) (out : List ByteArray), i + d = s.size → fr ≤ i → (∀ j : Nat, fr ≤ j → j < i → ¬ bt s (j : Int) = (c.toNat : Int)) → out.length ≤ fr →
    Ev (fun k => spec_l01Split.l0 k s (c.toNat : Int) out (fr : Int) (i : Int)) (out ++ S1 c (s.extract fr s.size))
  | 0, i, fr, out, hi, hf, hn, ho => by
    have hz : (s.extract fr s.size).size = s.size - fr := by rw [ByteArray.size_extract]; omega
    rw [S1_none (fun j hj => by rw [bt_ext s fr s.size j (by omega) (Nat.le_refl _)]; exact hn (fr + j) (by omega) (by omega))]
    refine Ev.const fun k => ?_
    simp only [spec_l01Split.l0]
    rw [if_neg (by omega), if_pos (by omega), if_pos (by omega), if_pos (by omega), Int.toNat_natCast]
  | d + 1, i, fr, out, hi, hf, hn, ho => by
    have hz : (s.extract fr s.size).size = s.size - fr := by rw [ByteArray.size_extract]; omega
    by_cases e : bt s (i : Int) = (c.toNat : Int)
    · have ih := split_loop s c hs d (i + 1) (i + 1) (out ++ [s.extract fr i]) (by omega) (by omega) (fun j _ _ => by omega) (by rw [List.length_append, List.length_singleton]; omega)
      have hh : S1 c (s.extract fr s.size) = s.extract fr i :: S1 c (s.extract (i + 1) s.size) := by
        have h1 := bt_ext s fr s.size (i - fr) (by omega) (Nat.le_refl _)
        rw [show fr + (i - fr) = i by omega] at h1
        rw [S1_hit (i := i - fr) (by omega) (by rw [h1]; exact e) (fun j hj => by rw [bt_ext s fr s.size j (by omega) (Nat.le_refl _)]; exact hn (fr + j) (by omega) (by omega))]
        rw [ByteArray.extract_extract, ByteArray.extract_extract, hz]
        congr 2
        · omega
        · congr 1
          · omega
          · omega
      rw [hh, show out ++ s.extract fr i :: S1 c (s.extract (i + 1) s.size) = out ++ [s.extract fr i] ++ S1 c (s.extract (i + 1) s.size) by simp]
      refine Ev.step (fun k => ?_) ih
      simp only [spec_l01Split.l0]
      rw [if_pos (by omega), if_pos (by omega), if_pos e, if_pos (by omega), if_pos (by omega), if_pos (by omega), if_pos (by omega), w64 (x := (i : Int) + 1) (by omega) (by omega), Int.toNat_natCast, Int.toNat_natCast]
      rfl
    · have ih := split_loop s c hs d (i + 1) fr out (by omega) (by omega) (fun j h1 h2 => by
        by_cases g : j < i
        · exact hn j h1 g
        · obtain rfl : j = i := by omega
          exact e) ho
      refine Ev.step (fun k => ?_) ih
      simp only [spec_l01Split.l0]
      rw [if_pos (by omega), if_pos (by omega), if_neg e, w64 (x := (i : Int) + 1) (by omega) (by omega)]
      rfl
theorem split_spec (s : ByteArray) (c : UInt8) (hs : s.size ≤ 1048576) : Ev (fun k => spec_l01Split.f k s (c.toNat : Int)) (S1 c s) := by
  have := split_loop s c hs s.size 0 0 [] (by omega) (by omega) (fun j _ _ => by omega) (by simp)
  rw [ByteArray.extract_zero_size, List.nil_append] at this
  exact this
theorem S1_len (c : UInt8) (s : ByteArray) : (S1 c s).length ≤ s.size + 1 := by
  unfold S1
  rw [Lib.splitB_all (⟨#[c]⟩ : ByteArray) (Nat.le_refl 1) 0 _ s rfl]
  have := Lib.countB_le (⟨#[c]⟩ : ByteArray) (Nat.le_refl 1) s.size s (Nat.le_refl _)
  omega
theorem split_impl (s : ByteArray) (c : UInt8) (hs : s.size ≤ 1048576) : strings_Split.f s (⟨#[c]⟩ : ByteArray) = some (S1 c s) := by
  unfold strings_Split.f
  rw [if_pos ⟨by omega, Nat.le_refl 1⟩]
  rfl
theorem rdO (l : List ByteArray) (i : Nat) (h : i < l.length) : rdOf ByteArray.empty l (i : Int) = l[i] := by
  unfold rdOf
  rw [Int.toNat_natCast, List.getD_eq_getElem?_getD, List.getElem?_eq_getElem h]
  rfl

def some0 (x : ByteArray) : Bool := !decide (x.toList = [])
theorem sw_spec (l : List ByteArray) (hl : l.length ≤ 2000000) : ∀ (d i : Nat) (out : List ByteArray), i + d = l.length → out.length ≤ i → Ev (fun k => spec_SplitWords.l0 k l out (i : Int)) (out ++ (l.drop i).filter some0)
  | 0, i, out, hi, ho => by
    rw [List.drop_of_length_le (by omega), List.filter_nil, List.append_nil]
    refine Ev.const fun k => ?_
    simp only [spec_SplitWords.l0]
    rw [if_neg (by omega)]
  | d + 1, i, out, hi, ho => by
    have hil : i < l.length := by omega
    rw [List.drop_eq_getElem_cons hil]
    have hr := rdO l i hil
    by_cases e : l[i].toList = []
    · have ih := sw_spec l hl d (i + 1) out (by omega) (by omega)
      rw [List.filter_cons_of_neg (by unfold some0; rw [decide_eq_true e]; simp)]
      refine Ev.step (fun k => ?_) ih
      simp only [spec_SplitWords.l0]
      rw [if_pos (by omega), if_pos (by omega), hr, if_pos e, w64 (x := (i : Int) + 1) (by omega) (by omega)]
      rfl
    · have ih := sw_spec l hl d (i + 1) (out ++ [l[i]]) (by omega) (by rw [List.length_append, List.length_singleton]; omega)
      rw [List.filter_cons_of_pos (by unfold some0; rw [decide_eq_false e]; simp), show out ++ l[i] :: (l.drop (i + 1)).filter some0 = out ++ [l[i]] ++ (l.drop (i + 1)).filter some0 by simp]
      refine Ev.step (fun k => ?_) ih
      simp only [spec_SplitWords.l0]
      rw [if_pos (by omega), if_pos (by omega), hr, if_neg e, if_pos (by omega), w64 (x := (i : Int) + 1) (by omega) (by omega)]
      rfl
theorem sw_impl (l : List ByteArray) (hl : l.length ≤ 2000000) : ∀ (d i : Nat) (out : List ByteArray), i + d = l.length → out.length ≤ i → Ev (fun k => impl_SplitWords.l0 k out l (l.length : Int) (i : Int)) (out ++ (l.drop i).filter some0)
  | 0, i, out, hi, ho => by
    rw [List.drop_of_length_le (by omega), List.filter_nil, List.append_nil]
    refine Ev.const fun k => ?_
    simp only [impl_SplitWords.l0]
    rw [if_neg (by omega)]
  | d + 1, i, out, hi, ho => by
    have hil : i < l.length := by omega
    rw [List.drop_eq_getElem_cons hil]
    have hr := rdO l i hil
    by_cases e : l[i].toList = []
    · have ih := sw_impl l hl d (i + 1) out (by omega) (by omega)
      rw [List.filter_cons_of_neg (by unfold some0; rw [decide_eq_true e]; simp)]
      refine Ev.step (fun k => ?_) ih
      simp only [impl_SplitWords.l0]
      rw [if_pos (by omega), if_pos (by omega), if_pos (by omega), hr, if_pos e, w64 (x := (i : Int) + 1) (by omega) (by omega)]
      rfl
    · have ih := sw_impl l hl d (i + 1) (out ++ [l[i]]) (by omega) (by rw [List.length_append, List.length_singleton]; omega)
      rw [List.filter_cons_of_pos (by unfold some0; rw [decide_eq_false e]; simp), show out ++ l[i] :: (l.drop (i + 1)).filter some0 = out ++ [l[i]] ++ (l.drop (i + 1)).filter some0 by simp]
      refine Ev.step (fun k => ?_) ih
      simp only [impl_SplitWords.l0]
      rw [if_pos (by omega), if_pos (by omega), if_pos (by omega), hr, if_neg e, if_pos (by omega), w64 (x := (i : Int) + 1) (by omega) (by omega)]
      rfl
/-- The words of a text: its parts between blanks that are not empty. -/
def wordsOf (s : ByteArray) : List ByteArray := (S1 32 s).filter some0
theorem words_len (s : ByteArray) : (wordsOf s).length ≤ s.size + 1 := Nat.le_trans (List.length_filter_le _ _) (S1_len 32 s)
theorem words_spec (s : ByteArray) (hs : s.size ≤ 1048576) : Ev (fun k => spec_SplitWords.f k s) (wordsOf s) := by
  have hl := S1_len 32 s
  obtain ⟨K1, g1⟩ := Ev.pick (split_spec s 32 hs)
  obtain ⟨K2, g2⟩ := Ev.pick (sw_spec (S1 32 s) (by omega) (S1 32 s).length 0 [] (by omega) (by simp))
  refine Ev.intro (K1 + K2) fun k hk => ?_
  unfold spec_SplitWords.f
  have e := g1 k (by omega)
  rw [show ((32 : UInt8).toNat : Int) = 32 from rfl] at e
  rw [e, Option.bind_some]
  exact g2 k (by omega)
theorem words_impl (s : ByteArray) (hs : s.size ≤ 1048576) : Ev (fun k => impl_SplitWords.f k s) (wordsOf s) := by
  have hl := S1_len 32 s
  obtain ⟨K2, g2⟩ := Ev.pick (sw_impl (S1 32 s) (by omega) (S1 32 s).length 0 [] (by omega) (by simp))
  refine Ev.intro K2 fun k hk => ?_
  unfold impl_SplitWords.f
  rw [split_impl s 32 hs, Option.bind_some]
  exact g2 k (by omega)

theorem index_ev (l : List ByteArray) (x : ByteArray) (hl : l.length ≤ 2000000) : ∀ (d i : Nat), i + d = l.length → ∃ r : Int, decide (r ≥ 0) = (l.drop i).any (fun y => decide (x.toList = y.toList)) ∧ Ev (fun k => slices_Index_string_string.l0 k l x (l.length : Int) (i : Int)) r
  | 0, i, hi => by
    rw [List.drop_of_length_le (by omega), List.any_nil]
    refine ⟨-1, by decide, Ev.const fun k => ?_⟩
    simp only [slices_Index_string_string.l0]
    rw [if_neg (by omega)]
  | d + 1, i, hi => by
    have hil : i < l.length := by omega
    rw [List.drop_eq_getElem_cons hil, List.any_cons]
    have hr := rdO l i hil
    by_cases e : x.toList = l[i].toList
    · refine ⟨(i : Int), by rw [decide_eq_true e, decide_eq_true (by omega)]; rfl, Ev.const fun k => ?_⟩
      simp only [slices_Index_string_string.l0]
      rw [if_pos (by omega), if_pos (by omega), if_pos (by omega), hr, if_pos e]
    · obtain ⟨r, h1, ih⟩ := index_ev l x hl d (i + 1) (by omega)
      refine ⟨r, by rw [decide_eq_false e, Bool.false_or]; exact h1, Ev.step (fun k => ?_) ih⟩
      simp only [slices_Index_string_string.l0]
      rw [if_pos (by omega), if_pos (by omega), if_pos (by omega), hr, if_neg e, w64 (x := (i : Int) + 1) (by omega) (by omega)]
      rfl
def cmds : List ByteArray := [(⟨#[100, 97, 121]⟩ : ByteArray), (⟨#[99, 111, 105, 108]⟩ : ByteArray), (⟨#[99, 117, 116]⟩ : ByteArray), (⟨#[98, 101, 108, 97, 121]⟩ : ByteArray), (⟨#[99, 97, 115, 116]⟩ : ByteArray), (⟨#[107, 101, 101, 112]⟩ : ByteArray)]
theorem tl (a : Array UInt8) : (⟨a⟩ : ByteArray).toList = a.toList := ByteArray.toList_eq _
theorem names_eq (x : ByteArray) : spec_l28Names.f x = some (cmds.any fun y => decide (x.toList = y.toList)) := by
  unfold spec_l28Names.f cmds
  simp only [List.any_cons, List.any_nil, tl]
  repeat' split
  all_goals simp_all
end FnExactIsChange_
open FnExactIsChange_ in
theorem FnExactIsChange : laws_FnExactIsChange.Pure := by
  intro a _
  by_cases c : (a.size : Int) > 1048576
  · refine ⟨0, ?_⟩
    unfold laws_FnExactIsChange.f
    rw [if_pos c]
  · obtain ⟨K1, g1⟩ := Ev.pick (words_spec a (by omega))
    obtain ⟨K2, g2⟩ := Ev.pick (words_impl a (by omega))
    have hl := words_len a
    generalize wordsOf a = W at g1 g2 hl
    cases W with
    | nil =>
      refine ⟨K1 + K2, ?_⟩
      unfold laws_FnExactIsChange.f spec_IsChange.f impl_IsChange.f
      rw [if_neg c, g1 _ (by omega), g2 _ (by omega)]
      simp
    | cons x W =>
      obtain ⟨r, hr, h3⟩ := index_ev cmds x (by decide) 6 0 rfl
      obtain ⟨K3, g3⟩ := Ev.pick h3
      refine ⟨K1 + K2 + K3, ?_⟩
      have hx : rdOf ByteArray.empty (x :: W) 0 = x := rfl
      have p : ((x :: W).length : Int) > 0 := by rw [List.length_cons]; omega
      have q : 0 < ((x :: W).length : Int) := p
      have e3 : slices_Contains_string_string.f (K1 + K2 + K3) cmds x = some (decide (r ≥ 0)) := by
        unfold slices_Contains_string_string.f slices_Index_string_string.f
        have := g3 (K1 + K2 + K3) (by omega)
        rw [show ((0 : Nat) : Int) = 0 from rfl] at this
        rw [this, Option.bind_some]
      unfold cmds at e3
      unfold laws_FnExactIsChange.f spec_IsChange.f impl_IsChange.f
      rw [if_neg c, g1 _ (by omega), g2 _ (by omega)]
      simp only [Option.bind_some, hx, names_eq, e3]
      rw [if_pos p, if_pos q, if_pos p, if_pos q, hr]
      simp

end Go.Proofs.YtnfcgofpfhajoaaDoor.Pure
