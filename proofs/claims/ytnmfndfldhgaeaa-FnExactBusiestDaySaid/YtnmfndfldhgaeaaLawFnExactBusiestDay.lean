/- The row of the law FnExactBusiestDay out of its plain statement: what the claim's reader takes in is of the printed kinds; the walk is the printed one. -/
import Derived.Test.YtnmfndfldhgaeaaRows
import Derived.Test.YtnmfndfldhgaeaaQFnExactBusiestDayx5
import Derived.Test.YtnmfndfldhgaeaaPureFnExactBusiestDay
import Derived.Test.YtnmfndfldhgaeaaReader
import Derived.WalkKit
import Derived.ProofKit
import Derived.OpenShut
import Derived.ShutString
import Derived.ChangeOld
import Derived.Below
import Derived.Carry
import Derived.SizedLaws
namespace Go.Proofs.Ytnmfndfldhgaeaa.fnExactBusiestDay
open Go.ChangeShapes Go.WideShapes Go.ChangeAt Go.RowKit Go.Proofs.Ytnmfndfldhgaeaa.QFnExactBusiestDay Go.Proofs.YtnmfndfldhgaeaaW.PrintWords Go.Proofs.Ytnmfndfldhgaeaa.Reader Go.Proofs.Ytnmfndfldhgaeaa.Pure
open Go.ChangeMaps (open_string shut_string)
set_option linter.unusedVariables false
theorem rd_S24 {H : Type} {enc : TypeId × Value → H} {W : World} : Rd enc Try.prog W 0 (fun _ => true) true 24 k24 G24 :=
  rd_imp (rd_iso (rd_struct Try.underlying24 (by kernel_rfl) (seg_cons rfl (by kernel_rfl) rfl (rd_string (by kernel_rfl)) (seg_cons rfl (by kernel_rfl) rfl (rd_slice (e := 2) (by kernel_rfl) (by kernel_rfl) (rd_int (by kernel_rfl))) (seg_one rfl (by kernel_rfl) (rd_int (by kernel_rfl)))))) (fun x : S24 => (x.f0, x.f1, x.f2)) (fun p => ⟨p.1, p.2.1, p.2.2⟩) (fun _ => rfl)) (fun x h => h)
theorem own : ownKnob Try.prog.godebug = none := by kernel_rfl
theorem laidOut : laidOutB Try.prog = true := by kernel_rfl
set_option maxRecDepth 100000 in
theorem lifted (os : Os) (started : os.Started) (H : Type) (enc : TypeId × Value → H) :
    ReturnsInHanded {} Try.checked os 8 .any (Rows.fnExactBusiestDaySpec.pre6 enc Try.prog Try.f8 Rows.fnExactBusiestDayRow.domain false) (Rows.fnExactBusiestDaySpec.post enc Try.prog Try.f8 false true false false) := by
  refine returnsInHanded_of_change_sized (C := Try.checked) own started (by kernel_rfl) Try.func8
    (ChangeSpec.witness6 (enc := enc) (C := Try.checked) false ⟨#[], #[.slice none 0 0], []⟩ 8 (by kernel_rfl) (by kernel_rfl) (by kernel_rfl) (by kernel_rfl)) ?_
  intro W base args ds gs before hval0 hW hcnd hsz0 _
  have hsz : (DataW.weightsEach Try.prog (Try.f8.params.toList ++ Rows.fnExactBusiestDaySpec.plain.varTypes Try.prog) (ds ++ gs)).all (· ≤ reachBytes) = true := hsz0
  have hval : ∀ (j : Nat) t v, Try.f8.params[j]? = some t → args[j]? = some v → Value.okWide Try.prog W .any base t v := hval0
  have hW' := hW
  obtain ⟨p, q, hA0, hV, rfl, hfz, hnd⟩ := hW
  have hA : DataW.TrodAll enc Try.prog W 0 (fun _ => true) true Try.f8.params.toList args.toList ds p := hA0
  rw [Try.params8] at hA hval hsz
  obtain ⟨v0, vs0, d0, ds0, p0, q0, hargs, rfl, rfl, h0, r0⟩ := trodAll_cons hA
  obtain ⟨rfl, rfl, rfl⟩ := trodAll_nil r0
  obtain rfl : args = #[v0] := by cases args; simp_all
  obtain ⟨rfl, rfl⟩ := trodVars_none hV
  obtain ⟨b0, len0, cap0, rfl⟩ := okWide_slice Try.underlying38 (hval 0 38 v0 rfl rfl)
  have k0 := h0
  have lt0 : ∀ x ∈ p0, x.block < W.heap.size := by obtain ⟨m, hm⟩ := k0; exact DataW.trod_lt m _ _ _ hm
  obtain ⟨l0, hc0, hr0, w0⟩ : ∃ l : List S24, (∃ A c, Value.slice b0 len0 cap0 = .slice A l.length c ∧ l.length ≤ c ∧ Kd.C k24 W A l.length l) ∧ True ∧ (l.length ≤ maxLen ∧ ∀ x ∈ l, G24 x) := by
    obtain ⟨fuel, hf⟩ := h0
    obtain ⟨l, ⟨A, c, hcs, hc, hr⟩, hg⟩ := rd_slice (q := 0) Try.underlying38 (by kernel_rfl) rd_S24 fuel _ _ hf
    simp only [Value.cells, List.cons.injEq, and_true] at hcs
    exact ⟨l, ⟨A, c, hcs, hc, hr⟩, trivial, hg⟩
  clear hr0
  obtain ⟨A0, c0, e0, hc0, hr0⟩ := hc0
  cases e0
  clear hA0 hval0 hsz0 hsz
  have key : ∃ k, laws_FnExactBusiestDay.f k l0 = some true := Pure.FnExactBusiestDay l0 w0
  obtain ⟨k, hkey⟩ := key
  refine (laws_FnExactBusiestDay.calls k _ _ l0 true W hr0 hc0 hkey).mono fun e W' he => ?_
  obtain ⟨rfl, bel0⟩ := he
  have bel : Below W.heap.size W W' := bel0
  exact ⟨_, rfl, _, _, _, [], _, [], hW', trodAll_mk1 (shut_bool Try.underlying4 _), (trodAll_cons_mk (Below.trod laidOut (by kernel_rfl) (of_decide_eq_true (by kernel_rfl)) k0 bel lt0) trodAll_mk0), rfl, bel.frame _, fun h => by cases h⟩
theorem over : Rows.fnExactBusiestDayRow.holds Try.pinned (OpenSpec.ofChange Rows.fnExactBusiestDaySpec) :=
  OpenClaim.holds_of_wide 8 Try.f8 rfl rfl rfl rfl rfl rfl rfl ⟨rfl, rfl, rfl, rfl, rfl⟩ rfl rfl rfl rfl rfl (by kernel_rfl) Try.func8 (by kernel_rfl)
    (of_decide_eq_true (by kernel_rfl)) (by unfold Func.isWrapper; first | (rw [if_pos (by decide +kernel)]; kernel_rfl) | (rw [if_neg (by decide +kernel)]; exact ⟨rfl, rfl⟩))
    (fun os started H enc _ => lifted os started H enc)
theorem proved : Rows.FnExactBusiestDaySaid := over
#print axioms proved
end Go.Proofs.Ytnmfndfldhgaeaa.fnExactBusiestDay
namespace Go.Proofs.Ytnmfndfldhgaeaa
/-- The row, under a short name, for the claim. -/
theorem fnExactBusiestDay_holds : Rows.FnExactBusiestDaySaid := fnExactBusiestDay.proved
end Go.Proofs.Ytnmfndfldhgaeaa
