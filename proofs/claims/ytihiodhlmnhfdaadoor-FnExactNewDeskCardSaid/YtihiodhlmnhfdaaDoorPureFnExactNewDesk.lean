/- For all texts the program's NewDesk and the reference's NewDesk tell the same, and no desk told shares a row with another. -/
import Derived.Test.YtihiodhlmnhfdaaDoorQFnExactNewDeskx15
import Derived.Test.YtihiodhlmnhfdaaDoorBase
namespace Go.Proofs.YtihiodhlmnhfdaaDoor.Pure
open Go.RowKit Go.Proofs.YtihiodhlmnhfdaaDoor.QFnExactNewDesk Go.Proofs.YtihiodhlmnhfdaaDoorW.PrintWords Go.Proofs.YtihiodhlmnhfdaaDoorW.PrintLast Go.Proofs.YtihiodhlmnhfdaaDoor.Base
set_option linter.unusedVariables false
set_option linter.unusedSimpArgs false
namespace FnExactNewDesk_
theorem eq_RailS (l : List S68) (h : l.length ≤ 1048576) : Ev (fun k => laws_eqRailS.f k l l) true := by
  refine Ev.congr (f := fun k => laws_eqRailS.l0 k l l 0) (fun k => by unfold laws_eqRailS.f; rw [if_pos rfl]) ?_
  refine go_to l.length (fun k i => laws_eqRailS.l0 k l l i) true (fun i hi => ⟨0, fun k _ => ?_⟩) (Ev.const fun k => ?_)
  · simp only [laws_eqRailS.l0, laws_eqRail.f, if_true, Option.bind_some]
    rw [if_pos (by omega), if_pos (by omega), if_pos (by omega), w64 (by omega) (by omega)]
  · simp only [laws_eqRailS.l0]
    rw [if_neg (by omega)]
theorem eq_BelayS (l : List S71) (h : l.length ≤ 1048576) : Ev (fun k => laws_eqBelayS.f k l l) true := by
  refine Ev.congr (f := fun k => laws_eqBelayS.l0 k l l 0) (fun k => by unfold laws_eqBelayS.f; rw [if_pos rfl]) ?_
  refine go_to l.length (fun k i => laws_eqBelayS.l0 k l l i) true (fun i hi => ⟨0, fun k _ => ?_⟩) (Ev.const fun k => ?_)
  · simp only [laws_eqBelayS.l0, laws_eqBelay.f, if_true, Option.bind_some]
    rw [if_pos (by omega), if_pos (by omega), if_pos (by omega), w64 (by omega) (by omega)]
  · simp only [laws_eqBelayS.l0]
    rw [if_neg (by omega)]
theorem eq_CoilS (l : List S59) (h : l.length ≤ 1048576) : Ev (fun k => laws_eqCoilS.f k l l) true := by
  refine Ev.congr (f := fun k => laws_eqCoilS.l0 k l l 0) (fun k => by unfold laws_eqCoilS.f; rw [if_pos rfl]) ?_
  refine go_to l.length (fun k i => laws_eqCoilS.l0 k l l i) true (fun i hi => ⟨0, fun k _ => ?_⟩) (Ev.const fun k => ?_)
  · simp only [laws_eqCoilS.l0, laws_eqCoil.f, if_true, Option.bind_some]
    rw [if_pos (by omega), if_pos (by omega), if_pos (by omega), w64 (by omega) (by omega)]
  · simp only [laws_eqCoilS.l0]
    rw [if_neg (by omega)]
theorem eq_StringS (l : List ByteArray) (h : l.length ≤ 1048576) : Ev (fun k => laws_eqStringS.f k l l) true := by
  refine Ev.congr (f := fun k => laws_eqStringS.l0 k l l 0) (fun k => by unfold laws_eqStringS.f; rw [if_pos rfl]) ?_
  refine go_to l.length (fun k i => laws_eqStringS.l0 k l l i) true (fun i hi => ⟨0, fun k _ => ?_⟩) (Ev.const fun k => ?_)
  · simp only [laws_eqStringS.l0, if_true]
    rw [if_pos (by omega), if_pos (by omega), if_pos (by omega), w64 (by omega) (by omega)]
  · simp only [laws_eqStringS.l0]
    rw [if_neg (by omega)]
theorem eq_desk (d : Int) (rl : List S68) (ln : List ByteArray) (bl : List S71) (cl : List S59) (kp wt : ByteArray) (h1 : rl.length ≤ 1048576) (h2 : ln.length ≤ 1048576) (h3 : bl.length ≤ 1048576) (h4 : cl.length ≤ 1048576) : Ev (fun k => laws_eqDesk.f k d rl ln bl cl kp wt d rl ln bl cl kp wt) true := by
  obtain ⟨K1, g1⟩ := Ev.pick (eq_RailS rl h1)
  obtain ⟨K2, g2⟩ := Ev.pick (eq_StringS ln h2)
  obtain ⟨K3, g3⟩ := Ev.pick (eq_BelayS bl h3)
  obtain ⟨K4, g4⟩ := Ev.pick (eq_CoilS cl h4)
  refine Ev.intro (K1 + K2 + K3 + K4) fun k hk => ?_
  unfold laws_eqDesk.f laws_eqRig.f laws_eqLog.f
  simp (disch := omega) only [g1, g2, g3, g4, Option.bind_some, if_true]
theorem str_one (b : Int) : (strOfNums [b]).size = 1 := rfl
theorem mtxt_loop : ∀ (d : Nat) (n : Int) (s : ByteArray), n.toNat ≤ d → s.size + d ≤ 2000000000 → ∃ t, Ev (fun k => laws_markText.l0 k n s) t := by
  intro d
  induction d with
  | zero =>
    intro n s hn hs
    refine ⟨(⟨#[109]⟩ : ByteArray) ++ s, Ev.const fun k => ?_⟩
    simp only [laws_markText.l0]
    rw [if_neg (by omega), if_pos (by omega)]
  | succ d ih =>
    intro n s hn hs
    by_cases h : n > 0
    · have e : wrap64 (Int.tdiv n 10) = n / 10 ∨ True := .inr trivial
      have hd : (wrap64 (Int.tdiv n 10)).toNat ≤ d := by
        rw [tdiv_nn (by omega)]
        unfold wrap64
        omega
      obtain ⟨t, ht⟩ := ih (wrap64 (Int.tdiv n 10)) (strOfNums [(wrap64 (48 + (Int.tmod n 10))) % 256] ++ s) hd (by
        rw [ByteArray.size_append, str_one]; omega)
      refine ⟨t, Ev.step (fun k => ?_) ht⟩
      simp only [laws_markText.l0]
      rw [if_pos h]
      simp only [Option.bind_some]
      rw [if_pos (by rw [str_one]; omega)]
    · refine ⟨(⟨#[109]⟩ : ByteArray) ++ s, Ev.const fun k => ?_⟩
      simp only [laws_markText.l0]
      rw [if_neg h, if_pos (by omega)]
theorem mtxt_ends (n : Int) (h : n ≤ 1500000000) : ∃ t, Ev (fun k => laws_markText.f k n) t := by
  by_cases c : n ≤ 0
  · exact ⟨_, Ev.all fun k => by unfold laws_markText.f; rw [if_pos c]⟩
  · obtain ⟨t, ht⟩ := mtxt_loop n.toNat n (⟨#[]⟩ : ByteArray) (Nat.le_refl _) (by show 0 + n.toNat ≤ _; omega)
    exact ⟨t, Ev.congr (fun k => by unfold laws_markText.f; rw [if_neg c]) ht⟩
open Classical in
noncomputable def mtxt (n : Int) : ByteArray := if h : n ≤ 1500000000 then Classical.choose (mtxt_ends n h) else ⟨#[]⟩
theorem mtxt_ev (n : Int) (h0 : 0 < n) (h : n ≤ 1500000000) : Ev (fun k => laws_markText.f k n) (mtxt n) := by
  unfold mtxt
  rw [dif_pos h]
  exact Classical.choose_spec (mtxt_ends n h)
noncomputable def mkRail (m : Int) : S68 := ⟨mtxt m, mtxt (m + 1), m + 1 + 1⟩
theorem rdIRail (xs : List S68) (i : Nat) (h : i < xs.length) : rd_T68 xs (i : Int) = xs[i] := by
  unfold rd_T68; rw [Int.toNat_natCast, List.getD_eq_getElem?_getD, List.getElem?_eq_getElem h]; rfl
theorem rdSetRail (xs : List S68) (i : Nat) (h : i < xs.length) (v : S68) : rd_T68 (xs.set i v) (i : Int) = v := by
  rw [rdIRail _ i (by simpa using h), List.getElem_set_self]
theorem mark_roundRail (xs : List S68) (i : Nat) (hi : i < xs.length) (hl : xs.length ≤ 2000000) (m : Int) (h0 : 0 < m) (h1 : m ≤ 1000000000) : ∃ K, ∀ k, K ≤ k → laws_markRailS.l0 (k + 1) xs m i = laws_markRailS.l0 k (xs.set i (mkRail m)) (m + 1 + 1 + 1) ((i : Int) + 1) := by
  have e1 : wrap64 (m + 1) = m + 1 := w64 (by omega) (by omega)
  have e2 : wrap64 (m + 1 + 1) = m + 1 + 1 := w64 (by omega) (by omega)
  have e3 : wrap64 (m + 1 + 1 + 1) = m + 1 + 1 + 1 := w64 (by omega) (by omega)
  obtain ⟨K0, hK0⟩ := Ev.pick (mtxt_ev (m) (by omega) (by omega))
  obtain ⟨K1, hK1⟩ := Ev.pick (mtxt_ev (m + 1) (by omega) (by omega))
  refine ⟨K0 + K1, fun k hk => ?_⟩
  simp only [laws_markRailS.l0]
  rw [if_pos (by omega), hK0 k (by omega), Option.bind_some, if_pos (by omega), w64 (x := (i : Int) + 1) (by omega) (by omega)]
  simp only [Option.bind_some, Int.toNat_natCast, rdSetRail xs i hi, List.set_set, e1, e2, e3, hK0 k (by omega), hK1 k (by omega)]
  rfl
theorem markRail_ev (l : List S68) (m0 : Int) (h0 : 0 < m0) (h1 : m0 ≤ 100000000) (h : l.length ≤ 2000000) : Ev (fun k => laws_markRailS.f k l m0) (m0 + 3 * (l.length : Int), (List.range l.length).map fun i : Nat => mkRail (m0 + 3 * (i : Int))) := by
  refine mark_to l.length 3 m0 mkRail (fun k xs m i => laws_markRailS.l0 k xs m i) (fun xs i hi hl => ?_) (fun k xs hl => ?_) l rfl
  · obtain ⟨K, hK⟩ := mark_roundRail xs i (by omega) (by omega) (m0 + 3 * (i : Int)) (by omega) (by omega)
    refine ⟨K, fun k hk => (hK k hk).trans ?_⟩
    rw [show m0 + 3 * (i : Int) + 1 + 1 + 1 = m0 + 3 * ((i + 1 : Nat) : Int) by omega]
  · simp only [laws_markRailS.l0]
    rw [if_neg (by omega)]
theorem heldRail_ev (n : Nat) (m0 : Int) (h0 : 0 < m0) (h1 : m0 ≤ 100000000) (h : n ≤ 2000000) : Ev (fun k => laws_heldRailS.f k ((List.range n).map fun i : Nat => mkRail (m0 + 3 * (i : Int))) m0) (m0 + 3 * (n : Int)) := by
  refine held_to n 3 m0 (fun k m i => laws_heldRailS.l0 k ((List.range n).map fun i : Nat => mkRail (m0 + 3 * (i : Int))) m i) (fun i hi => ?_) (fun k => ?_)
  · have hr : rd_T68 ((List.range n).map fun i : Nat => mkRail (m0 + 3 * (i : Int))) (i : Int) = mkRail (m0 + 3 * (i : Int)) := by
      rw [rdIRail _ i (by simpa using hi)]
      simp
    have hb : ((i : Nat) : Int) < (((List.range n).map fun i : Nat => mkRail (m0 + 3 * (i : Int))).length : Int) := by simp; omega
    revert hr hb
    generalize (List.range n).map (fun i : Nat => mkRail (m0 + 3 * (i : Int))) = xs
    intro hr hb
    have hm : (m0 + 3 * ((i + 1 : Nat) : Int)) = m0 + 3 * (i : Int) + 1 + 1 + 1 := by omega
    rw [hm]
    obtain ⟨m, hmm⟩ : ∃ m : Int, m0 + 3 * (i : Int) = m := ⟨_, rfl⟩
    rw [hmm] at hr ⊢
    have h0 : 0 < m := by omega
    have h1 : m ≤ 1000000000 := by omega
    have e1 : wrap64 (m + 1) = m + 1 := w64 (by omega) (by omega)
    have e2 : wrap64 (m + 1 + 1) = m + 1 + 1 := w64 (by omega) (by omega)
    have e3 : wrap64 (m + 1 + 1 + 1) = m + 1 + 1 + 1 := w64 (by omega) (by omega)
    obtain ⟨K0, hK0⟩ := Ev.pick (mtxt_ev (m) (by omega) (by omega))
    obtain ⟨K1, hK1⟩ := Ev.pick (mtxt_ev (m + 1) (by omega) (by omega))
    refine ⟨K0 + K1, fun k hk => ?_⟩
    simp only [laws_heldRailS.l0]
    rw [if_pos hb, if_pos (by omega), w64 (x := (i : Int) + 1) (by omega) (by omega)]
    simp only [hr, mkRail, Option.bind_some, e1, e2, e3, hK0 k (by omega), hK1 k (by omega), if_true]
  · simp only [laws_heldRailS.l0]
    rw [if_neg (by simp)]
noncomputable def mkBelay (m : Int) : S71 := ⟨mtxt m, mtxt (m + 1), m + 1 + 1⟩
theorem rdIBelay (xs : List S71) (i : Nat) (h : i < xs.length) : rd_T71 xs (i : Int) = xs[i] := by
  unfold rd_T71; rw [Int.toNat_natCast, List.getD_eq_getElem?_getD, List.getElem?_eq_getElem h]; rfl
theorem rdSetBelay (xs : List S71) (i : Nat) (h : i < xs.length) (v : S71) : rd_T71 (xs.set i v) (i : Int) = v := by
  rw [rdIBelay _ i (by simpa using h), List.getElem_set_self]
theorem mark_roundBelay (xs : List S71) (i : Nat) (hi : i < xs.length) (hl : xs.length ≤ 2000000) (m : Int) (h0 : 0 < m) (h1 : m ≤ 1000000000) : ∃ K, ∀ k, K ≤ k → laws_markBelayS.l0 (k + 1) xs m i = laws_markBelayS.l0 k (xs.set i (mkBelay m)) (m + 1 + 1 + 1) ((i : Int) + 1) := by
  have e1 : wrap64 (m + 1) = m + 1 := w64 (by omega) (by omega)
  have e2 : wrap64 (m + 1 + 1) = m + 1 + 1 := w64 (by omega) (by omega)
  have e3 : wrap64 (m + 1 + 1 + 1) = m + 1 + 1 + 1 := w64 (by omega) (by omega)
  obtain ⟨K0, hK0⟩ := Ev.pick (mtxt_ev (m) (by omega) (by omega))
  obtain ⟨K1, hK1⟩ := Ev.pick (mtxt_ev (m + 1) (by omega) (by omega))
  refine ⟨K0 + K1, fun k hk => ?_⟩
  simp only [laws_markBelayS.l0]
  rw [if_pos (by omega), hK0 k (by omega), Option.bind_some, if_pos (by omega), w64 (x := (i : Int) + 1) (by omega) (by omega)]
  simp only [Option.bind_some, Int.toNat_natCast, rdSetBelay xs i hi, List.set_set, e1, e2, e3, hK0 k (by omega), hK1 k (by omega)]
  rfl
theorem markBelay_ev (l : List S71) (m0 : Int) (h0 : 0 < m0) (h1 : m0 ≤ 100000000) (h : l.length ≤ 2000000) : Ev (fun k => laws_markBelayS.f k l m0) (m0 + 3 * (l.length : Int), (List.range l.length).map fun i : Nat => mkBelay (m0 + 3 * (i : Int))) := by
  refine mark_to l.length 3 m0 mkBelay (fun k xs m i => laws_markBelayS.l0 k xs m i) (fun xs i hi hl => ?_) (fun k xs hl => ?_) l rfl
  · obtain ⟨K, hK⟩ := mark_roundBelay xs i (by omega) (by omega) (m0 + 3 * (i : Int)) (by omega) (by omega)
    refine ⟨K, fun k hk => (hK k hk).trans ?_⟩
    rw [show m0 + 3 * (i : Int) + 1 + 1 + 1 = m0 + 3 * ((i + 1 : Nat) : Int) by omega]
  · simp only [laws_markBelayS.l0]
    rw [if_neg (by omega)]
theorem heldBelay_ev (n : Nat) (m0 : Int) (h0 : 0 < m0) (h1 : m0 ≤ 100000000) (h : n ≤ 2000000) : Ev (fun k => laws_heldBelayS.f k ((List.range n).map fun i : Nat => mkBelay (m0 + 3 * (i : Int))) m0) (m0 + 3 * (n : Int)) := by
  refine held_to n 3 m0 (fun k m i => laws_heldBelayS.l0 k ((List.range n).map fun i : Nat => mkBelay (m0 + 3 * (i : Int))) m i) (fun i hi => ?_) (fun k => ?_)
  · have hr : rd_T71 ((List.range n).map fun i : Nat => mkBelay (m0 + 3 * (i : Int))) (i : Int) = mkBelay (m0 + 3 * (i : Int)) := by
      rw [rdIBelay _ i (by simpa using hi)]
      simp
    have hb : ((i : Nat) : Int) < (((List.range n).map fun i : Nat => mkBelay (m0 + 3 * (i : Int))).length : Int) := by simp; omega
    revert hr hb
    generalize (List.range n).map (fun i : Nat => mkBelay (m0 + 3 * (i : Int))) = xs
    intro hr hb
    have hm : (m0 + 3 * ((i + 1 : Nat) : Int)) = m0 + 3 * (i : Int) + 1 + 1 + 1 := by omega
    rw [hm]
    obtain ⟨m, hmm⟩ : ∃ m : Int, m0 + 3 * (i : Int) = m := ⟨_, rfl⟩
    rw [hmm] at hr ⊢
    have h0 : 0 < m := by omega
    have h1 : m ≤ 1000000000 := by omega
    have e1 : wrap64 (m + 1) = m + 1 := w64 (by omega) (by omega)
    have e2 : wrap64 (m + 1 + 1) = m + 1 + 1 := w64 (by omega) (by omega)
    have e3 : wrap64 (m + 1 + 1 + 1) = m + 1 + 1 + 1 := w64 (by omega) (by omega)
    obtain ⟨K0, hK0⟩ := Ev.pick (mtxt_ev (m) (by omega) (by omega))
    obtain ⟨K1, hK1⟩ := Ev.pick (mtxt_ev (m + 1) (by omega) (by omega))
    refine ⟨K0 + K1, fun k hk => ?_⟩
    simp only [laws_heldBelayS.l0]
    rw [if_pos hb, if_pos (by omega), w64 (x := (i : Int) + 1) (by omega) (by omega)]
    simp only [hr, mkBelay, Option.bind_some, e1, e2, e3, hK0 k (by omega), hK1 k (by omega), if_true]
  · simp only [laws_heldBelayS.l0]
    rw [if_neg (by simp)]
noncomputable def mkCoil (m : Int) : S59 := ⟨mtxt m, m + 1⟩
theorem rdICoil (xs : List S59) (i : Nat) (h : i < xs.length) : rd_T59 xs (i : Int) = xs[i] := by
  unfold rd_T59; rw [Int.toNat_natCast, List.getD_eq_getElem?_getD, List.getElem?_eq_getElem h]; rfl
theorem rdSetCoil (xs : List S59) (i : Nat) (h : i < xs.length) (v : S59) : rd_T59 (xs.set i v) (i : Int) = v := by
  rw [rdICoil _ i (by simpa using h), List.getElem_set_self]
theorem mark_roundCoil (xs : List S59) (i : Nat) (hi : i < xs.length) (hl : xs.length ≤ 2000000) (m : Int) (h0 : 0 < m) (h1 : m ≤ 1000000000) : ∃ K, ∀ k, K ≤ k → laws_markCoilS.l0 (k + 1) xs m i = laws_markCoilS.l0 k (xs.set i (mkCoil m)) (m + 1 + 1) ((i : Int) + 1) := by
  have e1 : wrap64 (m + 1) = m + 1 := w64 (by omega) (by omega)
  have e2 : wrap64 (m + 1 + 1) = m + 1 + 1 := w64 (by omega) (by omega)
  obtain ⟨K0, hK0⟩ := Ev.pick (mtxt_ev (m) (by omega) (by omega))
  refine ⟨K0, fun k hk => ?_⟩
  simp only [laws_markCoilS.l0]
  rw [if_pos (by omega), hK0 k (by omega), Option.bind_some, if_pos (by omega), w64 (x := (i : Int) + 1) (by omega) (by omega)]
  simp only [Option.bind_some, Int.toNat_natCast, rdSetCoil xs i hi, List.set_set, e1, e2, hK0 k (by omega)]
  rfl
theorem markCoil_ev (l : List S59) (m0 : Int) (h0 : 0 < m0) (h1 : m0 ≤ 100000000) (h : l.length ≤ 2000000) : Ev (fun k => laws_markCoilS.f k l m0) (m0 + 2 * (l.length : Int), (List.range l.length).map fun i : Nat => mkCoil (m0 + 2 * (i : Int))) := by
  refine mark_to l.length 2 m0 mkCoil (fun k xs m i => laws_markCoilS.l0 k xs m i) (fun xs i hi hl => ?_) (fun k xs hl => ?_) l rfl
  · obtain ⟨K, hK⟩ := mark_roundCoil xs i (by omega) (by omega) (m0 + 2 * (i : Int)) (by omega) (by omega)
    refine ⟨K, fun k hk => (hK k hk).trans ?_⟩
    rw [show m0 + 2 * (i : Int) + 1 + 1 = m0 + 2 * ((i + 1 : Nat) : Int) by omega]
  · simp only [laws_markCoilS.l0]
    rw [if_neg (by omega)]
theorem heldCoil_ev (n : Nat) (m0 : Int) (h0 : 0 < m0) (h1 : m0 ≤ 100000000) (h : n ≤ 2000000) : Ev (fun k => laws_heldCoilS.f k ((List.range n).map fun i : Nat => mkCoil (m0 + 2 * (i : Int))) m0) (m0 + 2 * (n : Int)) := by
  refine held_to n 2 m0 (fun k m i => laws_heldCoilS.l0 k ((List.range n).map fun i : Nat => mkCoil (m0 + 2 * (i : Int))) m i) (fun i hi => ?_) (fun k => ?_)
  · have hr : rd_T59 ((List.range n).map fun i : Nat => mkCoil (m0 + 2 * (i : Int))) (i : Int) = mkCoil (m0 + 2 * (i : Int)) := by
      rw [rdICoil _ i (by simpa using hi)]
      simp
    have hb : ((i : Nat) : Int) < (((List.range n).map fun i : Nat => mkCoil (m0 + 2 * (i : Int))).length : Int) := by simp; omega
    revert hr hb
    generalize (List.range n).map (fun i : Nat => mkCoil (m0 + 2 * (i : Int))) = xs
    intro hr hb
    have hm : (m0 + 2 * ((i + 1 : Nat) : Int)) = m0 + 2 * (i : Int) + 1 + 1 := by omega
    rw [hm]
    obtain ⟨m, hmm⟩ : ∃ m : Int, m0 + 2 * (i : Int) = m := ⟨_, rfl⟩
    rw [hmm] at hr ⊢
    have h0 : 0 < m := by omega
    have h1 : m ≤ 1000000000 := by omega
    have e1 : wrap64 (m + 1) = m + 1 := w64 (by omega) (by omega)
    have e2 : wrap64 (m + 1 + 1) = m + 1 + 1 := w64 (by omega) (by omega)
    obtain ⟨K0, hK0⟩ := Ev.pick (mtxt_ev (m) (by omega) (by omega))
    refine ⟨K0, fun k hk => ?_⟩
    simp only [laws_heldCoilS.l0]
    rw [if_pos hb, if_pos (by omega), w64 (x := (i : Int) + 1) (by omega) (by omega)]
    simp only [hr, mkCoil, Option.bind_some, e1, e2, hK0 k (by omega), if_true]
  · simp only [laws_heldCoilS.l0]
    rw [if_neg (by simp)]
noncomputable def mkString (m : Int) : ByteArray := mtxt m
theorem rdIString (xs : List ByteArray) (i : Nat) (h : i < xs.length) : rdOf ByteArray.empty xs (i : Int) = xs[i] := by
  unfold rdOf; rw [Int.toNat_natCast, List.getD_eq_getElem?_getD, List.getElem?_eq_getElem h]; rfl
theorem mark_roundString (xs : List ByteArray) (i : Nat) (hi : i < xs.length) (hl : xs.length ≤ 2000000) (m : Int) (h0 : 0 < m) (h1 : m ≤ 1000000000) : ∃ K, ∀ k, K ≤ k → laws_markStringS.l0 (k + 1) xs m i = laws_markStringS.l0 k (xs.set i (mkString m)) (m + 1) ((i : Int) + 1) := by
  have e1 : wrap64 (m + 1) = m + 1 := w64 (by omega) (by omega)
  obtain ⟨K0, hK0⟩ := Ev.pick (mtxt_ev (m) (by omega) (by omega))
  refine ⟨K0, fun k hk => ?_⟩
  simp only [laws_markStringS.l0]
  rw [if_pos (by omega), hK0 k (by omega), Option.bind_some, if_pos (by omega), w64 (x := (i : Int) + 1) (by omega) (by omega)]
  simp only [Int.toNat_natCast, e1]
  rfl
theorem markString_ev (l : List ByteArray) (m0 : Int) (h0 : 0 < m0) (h1 : m0 ≤ 100000000) (h : l.length ≤ 2000000) : Ev (fun k => laws_markStringS.f k l m0) (m0 + 1 * (l.length : Int), (List.range l.length).map fun i : Nat => mkString (m0 + 1 * (i : Int))) := by
  refine mark_to l.length 1 m0 mkString (fun k xs m i => laws_markStringS.l0 k xs m i) (fun xs i hi hl => ?_) (fun k xs hl => ?_) l rfl
  · obtain ⟨K, hK⟩ := mark_roundString xs i (by omega) (by omega) (m0 + 1 * (i : Int)) (by omega) (by omega)
    refine ⟨K, fun k hk => (hK k hk).trans ?_⟩
    rw [show m0 + 1 * (i : Int) + 1 = m0 + 1 * ((i + 1 : Nat) : Int) by omega]
  · simp only [laws_markStringS.l0]
    rw [if_neg (by omega)]
theorem heldString_ev (n : Nat) (m0 : Int) (h0 : 0 < m0) (h1 : m0 ≤ 100000000) (h : n ≤ 2000000) : Ev (fun k => laws_heldStringS.f k ((List.range n).map fun i : Nat => mkString (m0 + 1 * (i : Int))) m0) (m0 + 1 * (n : Int)) := by
  refine held_to n 1 m0 (fun k m i => laws_heldStringS.l0 k ((List.range n).map fun i : Nat => mkString (m0 + 1 * (i : Int))) m i) (fun i hi => ?_) (fun k => ?_)
  · have hr : rdOf ByteArray.empty ((List.range n).map fun i : Nat => mkString (m0 + 1 * (i : Int))) (i : Int) = mkString (m0 + 1 * (i : Int)) := by
      rw [rdIString _ i (by simpa using hi)]
      simp
    have hb : ((i : Nat) : Int) < (((List.range n).map fun i : Nat => mkString (m0 + 1 * (i : Int))).length : Int) := by simp; omega
    revert hr hb
    generalize (List.range n).map (fun i : Nat => mkString (m0 + 1 * (i : Int))) = xs
    intro hr hb
    have hm : (m0 + 1 * ((i + 1 : Nat) : Int)) = m0 + 1 * (i : Int) + 1 := by omega
    rw [hm]
    obtain ⟨m, hmm⟩ : ∃ m : Int, m0 + 1 * (i : Int) = m := ⟨_, rfl⟩
    rw [hmm] at hr ⊢
    have h0 : 0 < m := by omega
    have h1 : m ≤ 1000000000 := by omega
    have e1 : wrap64 (m + 1) = m + 1 := w64 (by omega) (by omega)
    obtain ⟨K0, hK0⟩ := Ev.pick (mtxt_ev (m) (by omega) (by omega))
    refine ⟨K0, fun k hk => ?_⟩
    simp only [laws_heldStringS.l0]
    rw [if_pos hb, if_pos (by omega), w64 (x := (i : Int) + 1) (by omega) (by omega)]
    simp only [hr, mkString, Option.bind_some, e1, hK0 k (by omega), if_true]
  · simp only [laws_heldStringS.l0]
    rw [if_neg (by simp)]
theorem desk_marks (d : Int) (rl : List S68) (ln : List ByteArray) (bl : List S71) (cl : List S59) (kp wt : ByteArray) (h1 : rl.length ≤ 1048576) (h2 : ln.length ≤ 1048576) (h3 : bl.length ≤ 1048576) (h4 : cl.length ≤ 1048576) : ∃ (m : Int) (rl' : List S68) (ln' : List ByteArray) (bl' : List S71) (cl' : List S59), 0 < m ∧ Ev (fun k => laws_markDesk.f k d rl ln bl cl kp wt 1) (m, rl', ln', bl', cl') ∧ Ev (fun k => laws_heldDesk.f k d rl' ln' bl' cl' kp wt 1) m := by
  obtain ⟨m1, e1⟩ : ∃ m1 : Int, 1 + 3 * (rl.length : Int) = m1 := ⟨_, rfl⟩
  obtain ⟨m2, e2⟩ : ∃ m2 : Int, m1 + 1 * (ln.length : Int) = m2 := ⟨_, rfl⟩
  obtain ⟨m3, e3⟩ : ∃ m3 : Int, m2 + 3 * (bl.length : Int) = m3 := ⟨_, rfl⟩
  obtain ⟨m4, e4⟩ : ∃ m4 : Int, m3 + 2 * (cl.length : Int) = m4 := ⟨_, rfl⟩
  have a1 := markRail_ev rl 1 (by omega) (by omega) (by omega)
  have b1 := heldRail_ev rl.length 1 (by omega) (by omega) (by omega)
  rw [e1] at a1 b1
  have a2 := markString_ev ln m1 (by omega) (by omega) (by omega)
  have b2 := heldString_ev ln.length m1 (by omega) (by omega) (by omega)
  rw [e2] at a2 b2
  have a3 := markBelay_ev bl m2 (by omega) (by omega) (by omega)
  have b3 := heldBelay_ev bl.length m2 (by omega) (by omega) (by omega)
  rw [e3] at a3 b3
  have a4 := markCoil_ev cl m3 (by omega) (by omega) (by omega)
  have b4 := heldCoil_ev cl.length m3 (by omega) (by omega) (by omega)
  rw [e4] at a4 b4
  have p1 : 0 < m1 := by omega
  have p2 : 0 < m2 := by omega
  have p3 : 0 < m3 := by omega
  have p4 : 0 < m4 := by omega
  clear e1 e2 e3 e4
  generalize (List.range rl.length).map (fun i : Nat => mkRail (1 + 3 * (i : Int))) = x1 at a1 b1
  generalize (List.range ln.length).map (fun i : Nat => mkString (m1 + 1 * (i : Int))) = x2 at a2 b2
  generalize (List.range bl.length).map (fun i : Nat => mkBelay (m2 + 3 * (i : Int))) = x3 at a3 b3
  generalize (List.range cl.length).map (fun i : Nat => mkCoil (m3 + 2 * (i : Int))) = x4 at a4 b4
  obtain ⟨A1, g1⟩ := Ev.pick a1
  obtain ⟨B1, f1⟩ := Ev.pick b1
  obtain ⟨A2, g2⟩ := Ev.pick a2
  obtain ⟨B2, f2⟩ := Ev.pick b2
  obtain ⟨A3, g3⟩ := Ev.pick a3
  obtain ⟨B3, f3⟩ := Ev.pick b3
  obtain ⟨A4, g4⟩ := Ev.pick a4
  obtain ⟨B4, f4⟩ := Ev.pick b4
  refine ⟨m4, x1, x2, x3, x4, p4, Ev.intro (A1 + A2 + A3 + A4) fun k hk => ?_, Ev.intro (B1 + B2 + B3 + B4) fun k hk => ?_⟩
  · unfold laws_markDesk.f laws_markRig.f
    rw [g1 k (by omega)]
    simp only [Option.bind_some]
    rw [g2 k (by omega)]
    simp only [Option.bind_some]
    rw [g3 k (by omega)]
    simp only [Option.bind_some]
    rw [g4 k (by omega)]
    simp only [Option.bind_some]
  · unfold laws_heldDesk.f laws_heldRig.f
    rw [f1 k (by omega), Option.bind_some, if_neg (by omega), f2 k (by omega), Option.bind_some, if_neg (by omega), f3 k (by omega), Option.bind_some, if_neg (by omega), Option.bind_some, if_neg (by omega), f4 k (by omega), Option.bind_some, if_neg (by omega)]
theorem ls_len (s : ByteArray) (h : s.size ≤ 1048576) : (rigA s).1.1.length ≤ 1048576 ∧ (rigA s).1.2.1.length ≤ 1048576 ∧ (rigA s).1.2.2.length ≤ 1048576 := by
  unfold rigA
  by_cases h3 : 3000 < s.size
  · rw [if_pos h3]
    simp
  · rw [if_neg h3]
    have hc := S1_len 10 s
    have hr : ∀ (l : List ByteArray) (i : Nat) (R : RT) (ns : List S50), (R.1.length ≤ 10 ∧ R.2.1.length ≤ 60) → ((rowsP l i R ns).1.1.length ≤ 10 ∧ (rowsP l i R ns).1.2.1.length ≤ 60) ∧ (rowsP l i R ns).1.2.2.length ≤ R.2.2.length + l.length := by
      intro l
      induction l with
      | nil => intro i R ns h; exact ⟨h, by simp [rowsP]⟩
      | cons x l ih =>
        intro i R ns h
        obtain ⟨p1, p2⟩ := ih (i + 1) (rowP R (wordsOf x)).2 (noteP ns i (rowP R (wordsOf x)).1) (row_cap R (wordsOf x) h)
        have := row_len R (wordsOf x)
        refine ⟨p1, ?_⟩
        have e : (rowsP (x :: l) i R ns).1.2.2 = (rowsP l (i + 1) (rowP R (wordsOf x)).2 (noteP ns i (rowP R (wordsOf x)).1)).1.2.2 := rfl
        rw [e, List.length_cons]
        omega
    obtain ⟨⟨p1, p2⟩, p3⟩ := hr (S1 10 s) 0 ([], [], []) [] ⟨by simp, by simp⟩
    have p4 : (([] : List S71)).length = 0 := rfl
    refine ⟨?_, ?_, ?_⟩ <;> simp only <;> simp only [List.length_nil] at p3 <;> omega
theorem desk_told (s : ByteArray) (h : s.size ≤ 1048576) : ∃ (d : Int) (rl : List S68) (ln : List ByteArray) (bl : List S71) (cl : List S59) (kp wt : ByteArray) (c : Int), spec_NewDesk.f s = some (d, rl, ln, bl, cl, kp, wt, c) ∧ impl_NewDesk.f s = some (d, rl, ln, bl, cl, kp, wt, c) ∧ rl.length ≤ 1048576 ∧ ln.length ≤ 1048576 ∧ bl.length ≤ 1048576 ∧ cl.length ≤ 1048576 := by
  obtain ⟨z1, z2, z3⟩ := ls_len s h
  unfold spec_NewDesk.f impl_NewDesk.f spec_ParseRig.f impl_ParseRig.f
  rw [if_pos h]
  simp only [Option.bind_some]
  generalize (rigA s).2.2 = c
  generalize (rigA s).2.1 = ns
  generalize (rigA s).1.1 = a at *
  generalize (rigA s).1.2.1 = b at *
  generalize (rigA s).1.2.2 = e at *
  by_cases hc : c = 0
  · by_cases hn : (ns.length : Int) > 0
    · exact ⟨0, [], [], [], [], ⟨#[]⟩, ⟨#[]⟩, 7, by rw [if_pos hc, if_pos hn], by rw [if_pos hc, if_pos hn], by simp, by simp, by simp, by simp⟩
    · exact ⟨0, a, b, e, [], ⟨#[]⟩, ⟨#[]⟩, 0, by rw [if_pos hc, if_neg hn], by rw [if_pos hc, if_neg hn], z1, z2, z3, by simp⟩
  · exact ⟨0, [], [], [], [], ⟨#[]⟩, ⟨#[]⟩, c, by rw [if_neg hc], by rw [if_neg hc], by simp, by simp, by simp, by simp⟩
theorem law (s : ByteArray) : ∃ k, laws_FnExactNewDesk.f k s = some true := by
  by_cases h : (s.size : Int) > 1048576
  · exact ⟨0, by unfold laws_FnExactNewDesk.f; rw [if_pos h]⟩
  obtain ⟨d, rl, ln, bl, cl, kp, wt, c, es, ei, h1, h2, h3, h4⟩ := desk_told s (by omega)
  obtain ⟨m, rl', ln', bl', cl', hm, hmk, hh⟩ := desk_marks d rl ln bl cl kp wt h1 h2 h3 h4
  obtain ⟨K1, g1⟩ := Ev.pick (eq_desk d rl ln bl cl kp wt h1 h2 h3 h4)
  obtain ⟨K2, g2⟩ := Ev.pick hmk
  obtain ⟨K3, g3⟩ := Ev.pick hh
  refine ⟨K1 + K2 + K3 + 2, ?_⟩
  unfold laws_FnExactNewDesk.f
  rw [if_neg h, es, Option.bind_some, ei, Option.bind_some]
  simp only
  rw [g1 _ (by omega), Option.bind_some, if_pos rfl, show (c != c) = false by simp]
  show laws_FnExactNewDesk.j0 ((K1 + K2 + K3 + 1) + 1) s c false d rl ln bl cl kp wt d rl ln bl cl kp wt = _
  simp only [laws_FnExactNewDesk.j0]
  rw [if_neg (by simp), g2 _ (by omega), Option.bind_some]
  simp only
  rw [g3 _ (by omega), Option.bind_some, if_neg (by omega), if_pos rfl, ei, Option.bind_some]
  simp only
  rw [g1 _ (by omega), Option.bind_some, if_pos rfl, show (c != c) = false by simp]
  show laws_FnExactNewDesk.j1 ((K1 + K2 + K3) + 1) m false d rl' ln' bl' cl' kp wt = _
  simp only [laws_FnExactNewDesk.j1]
  rw [if_neg (by simp), g3 _ (by omega), Option.bind_some, if_neg (by omega), if_pos rfl]
end FnExactNewDesk_
open FnExactNewDesk_ in
theorem FnExactNewDesk : ∀ (a0 : ByteArray), a0.size ≤ 140737488351232 → ∃ k, laws_FnExactNewDesk.f k a0 = some true := fun a0 _ => law a0
end Go.Proofs.YtihiodhlmnhfdaaDoor.Pure
