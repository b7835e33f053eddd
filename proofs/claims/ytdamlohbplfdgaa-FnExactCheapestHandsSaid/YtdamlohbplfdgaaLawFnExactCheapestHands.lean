/- The row of the law FnExactCheapestHands out of its plain statement: what the claim's reader takes in is of the printed kinds; the walk is the printed one. -/
import Derived.Test.YtdamlohbplfdgaaRows
import Derived.Test.YtdamlohbplfdgaaQFnExactCheapestHandsx7
import Derived.Test.YtdamlohbplfdgaaPureFnExactCheapestHands
import Derived.Test.YtdamlohbplfdgaaReader
import Derived.WalkKit
import Derived.ProofKit
import Derived.OpenShut
import Derived.ShutString
import Derived.ChangeOld
import Derived.Below
import Derived.Carry
import Derived.SizedLaws
namespace Go.Proofs.Ytdamlohbplfdgaa.fnExactCheapestHands
open Go.ChangeShapes Go.WideShapes Go.ChangeAt Go.RowKit Go.Proofs.Ytdamlohbplfdgaa.QFnExactCheapestHands Go.Proofs.YtdamlohbplfdgaaW.PrintWords Go.Proofs.Ytdamlohbplfdgaa.Reader Go.Proofs.Ytdamlohbplfdgaa.Pure
open Go.ChangeMaps (open_string shut_string)
set_option linter.unusedVariables false
theorem rd_S36 {H : Type} {enc : TypeId × Value → H} {W : World} : Rd enc Try.prog W 0 (fun _ => true) true 36 k36 G36 :=
  rd_imp (rd_iso (rd_struct Try.underlying36 (by kernel_rfl) (seg_cons rfl (by kernel_rfl) rfl (rd_string (by kernel_rfl)) (seg_cons rfl (by kernel_rfl) rfl (rd_slice (e := 2) (by kernel_rfl) (by kernel_rfl) (rd_int (by kernel_rfl))) (seg_one rfl (by kernel_rfl) (rd_int (by kernel_rfl)))))) (fun x : S36 => (x.f0, x.f1, x.f2)) (fun p => ⟨p.1, p.2.1, p.2.2⟩) (fun _ => rfl)) (fun x h => h)
theorem own : ownKnob Try.prog.godebug = none := by kernel_rfl
theorem laidOut : laidOutB Try.prog = true := by kernel_rfl
set_option maxRecDepth 100000 in
theorem lifted (os : Os) (started : os.Started) (H : Type) (enc : TypeId × Value → H) :
    ReturnsInHanded {} Try.checked os 3 .any (Rows.fnExactCheapestHandsSpec.pre6 enc Try.prog Try.f3 Rows.fnExactCheapestHandsRow.domain false) (Rows.fnExactCheapestHandsSpec.post enc Try.prog Try.f3 false true false false) := by
  refine returnsInHanded_of_change_sized (C := Try.checked) own started (by kernel_rfl) Try.func3
    (ChangeSpec.witness6 (enc := enc) (C := Try.checked) false ⟨#[], #[.slice none 0 0, .int .i64 0], []⟩ 8 (by kernel_rfl) (by kernel_rfl) (by kernel_rfl) (by kernel_rfl)) ?_
  intro W base args ds gs before hval0 hW hcnd hsz0 _
  have hsz : (DataW.weightsEach Try.prog (Try.f3.params.toList ++ Rows.fnExactCheapestHandsSpec.plain.varTypes Try.prog) (ds ++ gs)).all (· ≤ reachBytes) = true := hsz0
  have hval : ∀ (j : Nat) t v, Try.f3.params[j]? = some t → args[j]? = some v → Value.okWide Try.prog W .any base t v := hval0
  have hW' := hW
  obtain ⟨p, q, hA0, hV, rfl, hfz, hnd⟩ := hW
  have hA : DataW.TrodAll enc Try.prog W 0 (fun _ => true) true Try.f3.params.toList args.toList ds p := hA0
  rw [Try.params3] at hA hval hsz
  obtain ⟨v0, vs0, d0, ds0, p0, q0, hargs, rfl, rfl, h0, r0⟩ := trodAll_cons hA
  obtain ⟨v1, vs1, d1, ds1, p1, q1, rfl, rfl, rfl, h1, r1⟩ := trodAll_cons r0
  obtain ⟨rfl, rfl, rfl⟩ := trodAll_nil r1
  obtain rfl : args = #[v0, v1] := by cases args; simp_all
  obtain ⟨rfl, rfl⟩ := trodVars_none hV
  obtain ⟨b0, len0, cap0, rfl⟩ := okWide_slice Try.underlying22 (hval 0 22 v0 rfl rfl)
  have k0 := h0
  have lt0 : ∀ x ∈ p0, x.block < W.heap.size := by obtain ⟨m, hm⟩ := k0; exact DataW.trod_lt m _ _ _ hm
  obtain ⟨l0, hc0, hr0, w0⟩ : ∃ l : List S36, (∃ A c, Value.slice b0 len0 cap0 = .slice A l.length c ∧ l.length ≤ c ∧ Kd.C k36 W A l.length l) ∧ True ∧ (l.length ≤ maxLen ∧ ∀ x ∈ l, G36 x) := by
    obtain ⟨fuel, hf⟩ := h0
    obtain ⟨l, ⟨A, c, hcs, hc, hr⟩, hg⟩ := rd_slice (q := 0) Try.underlying22 (by kernel_rfl) rd_S36 fuel _ _ hf
    simp only [Value.cells, List.cons.injEq, and_true] at hcs
    exact ⟨l, ⟨A, c, hcs, hc, hr⟩, trivial, hg⟩
  clear hr0
  obtain ⟨A0, c0, e0, hc0, hr0⟩ := hc0
  cases e0
  obtain ⟨a1, rfl, rfl, rfl, w1⟩ := open_int Try.underlying2 (hval 1 2 v1 rfl rfl) h1
  clear hA0 hval0 hsz0 hsz
  have key : ∃ k, laws_FnExactCheapestHands.f k l0 a1 = some true := Pure.FnExactCheapestHands l0 a1 w0 w1
  obtain ⟨k, hkey⟩ := key
  refine (laws_FnExactCheapestHands.calls k _ _ l0 a1 true W hr0 hc0 hkey).mono fun e W' he => ?_
  obtain ⟨rfl, bel0⟩ := he
  have bel : Below W.heap.size W W' := bel0
  exact ⟨_, rfl, _, _, _, [], _, [], hW', trodAll_mk1 (shut_bool Try.underlying4 _), (trodAll_cons_mk (Below.trod laidOut (by kernel_rfl) (of_decide_eq_true (by kernel_rfl)) k0 bel lt0) (trodAll_cons_mk (shut_int Try.underlying2 w1) trodAll_mk0)), rfl, bel.frame _, fun h => by cases h⟩
theorem over : Rows.fnExactCheapestHandsRow.holds Try.pinned (OpenSpec.ofChange Rows.fnExactCheapestHandsSpec) :=
  OpenClaim.holds_of_wide 3 Try.f3 rfl rfl rfl rfl rfl rfl rfl ⟨rfl, rfl, rfl, rfl, rfl⟩ rfl rfl rfl rfl rfl (by kernel_rfl) Try.func3 (by kernel_rfl)
    (of_decide_eq_true (by kernel_rfl)) (by unfold Func.isWrapper; first | (rw [if_pos (by decide +kernel)]; kernel_rfl) | (rw [if_neg (by decide +kernel)]; exact ⟨rfl, rfl⟩))
    (fun os started H enc _ => lifted os started H enc)
theorem proved : Rows.FnExactCheapestHandsSaid := over
#print axioms proved
end Go.Proofs.Ytdamlohbplfdgaa.fnExactCheapestHands
namespace Go.Proofs.Ytdamlohbplfdgaa
/-- The row, under a short name, for the claim. -/
theorem fnExactCheapestHands_holds : Rows.FnExactCheapestHandsSaid := fnExactCheapestHands.proved
end Go.Proofs.Ytdamlohbplfdgaa
