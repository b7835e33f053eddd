/- The row of the law FnExactLongestStreak out of its plain statement: what the claim's reader takes in is of the printed kinds; the walk is the printed one. -/
import Derived.Test.YtnmfndfldhgaeaaRows
import Derived.Test.YtnmfndfldhgaeaaQFnExactLongestStreakx4
import Derived.Test.YtnmfndfldhgaeaaPureFnExactLongestStreak
import Derived.Test.YtnmfndfldhgaeaaReader
import Derived.WalkKit
import Derived.ProofKit
import Derived.OpenShut
import Derived.ShutString
import Derived.ChangeOld
import Derived.Below
import Derived.Carry
import Derived.SizedLaws
namespace Go.Proofs.Ytnmfndfldhgaeaa.fnExactLongestStreak
open Go.ChangeShapes Go.WideShapes Go.ChangeAt Go.RowKit Go.Proofs.Ytnmfndfldhgaeaa.QFnExactLongestStreak Go.Proofs.YtnmfndfldhgaeaaW.PrintWords Go.Proofs.Ytnmfndfldhgaeaa.Reader Go.Proofs.Ytnmfndfldhgaeaa.Pure
open Go.ChangeMaps (open_string shut_string)
set_option linter.unusedVariables false
structure S24 where
  f0 : ByteArray
  f1 : List Int
  f2 : Int
def k24 : Kd S24 := Kd.iso (Kd.pair Kd.string (Kd.pair (Kd.slice 2 (Kd.int .i64)) (Kd.int .i64))) (fun x : S24 => (x.f0, x.f1, x.f2))
def G24 (z : S24) : Prop := z.f0.size ≤ maxLen ∧ (z.f1.length ≤ maxLen ∧ ∀ x ∈ z.f1, (Lit.int .i64 x).wf = true) ∧ (Lit.int .i64 z.f2).wf = true
theorem rd_S24 {H : Type} {enc : TypeId × Value → H} {W : World} : Rd enc Try.prog W 0 (fun _ => true) true 24 k24 G24 :=
  rd_imp (rd_iso (rd_struct Try.underlying24 (by kernel_rfl) (seg_cons rfl (by kernel_rfl) rfl (rd_string (by kernel_rfl)) (seg_cons rfl (by kernel_rfl) rfl (rd_slice (e := 2) (by kernel_rfl) (by kernel_rfl) (rd_int (by kernel_rfl))) (seg_one rfl (by kernel_rfl) (rd_int (by kernel_rfl)))))) (fun x : S24 => (x.f0, x.f1, x.f2)) (fun p => ⟨p.1, p.2.1, p.2.2⟩) (fun _ => rfl)) (fun x h => h)
theorem own : ownKnob Try.prog.godebug = none := by kernel_rfl
theorem laidOut : laidOutB Try.prog = true := by kernel_rfl
set_option maxRecDepth 100000 in
theorem lifted (os : Os) (started : os.Started) (H : Type) (enc : TypeId × Value → H) :
    ReturnsInHanded {} Try.checked os 5 .any (Rows.fnExactLongestStreakSpec.pre6 enc Try.prog Try.f5 Rows.fnExactLongestStreakRow.domain false) (Rows.fnExactLongestStreakSpec.post enc Try.prog Try.f5 false true false false) := by
  refine returnsInHanded_of_change_sized (C := Try.checked) own started (by kernel_rfl) Try.func5
    (ChangeSpec.witness6 (enc := enc) (C := Try.checked) false ⟨#[], #[.agg #[.string ByteArray.empty, .slice none 0 0, .int .i64 0]], []⟩ 8 (by kernel_rfl) (by kernel_rfl) (by kernel_rfl) (by kernel_rfl)) ?_
  intro W base args ds gs before hval0 hW hcnd hsz0 _
  have hsz : (DataW.weightsEach Try.prog (Try.f5.params.toList ++ Rows.fnExactLongestStreakSpec.plain.varTypes Try.prog) (ds ++ gs)).all (· ≤ reachBytes) = true := hsz0
  have hval : ∀ (j : Nat) t v, Try.f5.params[j]? = some t → args[j]? = some v → Value.okWide Try.prog W .any base t v := hval0
  have hW' := hW
  obtain ⟨p, q, hA0, hV, rfl, hfz, hnd⟩ := hW
  have hA : DataW.TrodAll enc Try.prog W 0 (fun _ => true) true Try.f5.params.toList args.toList ds p := hA0
  rw [Try.params5] at hA hval hsz
  obtain ⟨v0, vs0, d0, ds0, p0, q0, hargs, rfl, rfl, h0, r0⟩ := trodAll_cons hA
  obtain ⟨rfl, rfl, rfl⟩ := trodAll_nil r0
  obtain rfl : args = #[v0] := by cases args; simp_all
  obtain ⟨rfl, rfl⟩ := trodVars_none hV
  obtain ⟨cs0, rfl, _⟩ := okWide_struct Try.underlying24 (hval 0 24 v0 rfl rfl)
  have k0 := h0
  have lt0 : ∀ x ∈ p0, x.block < W.heap.size := by obtain ⟨m, hm⟩ := k0; exact DataW.trod_lt m _ _ _ hm
  obtain ⟨s0, hk0, w0⟩ : ∃ s : S24, k24.K W s cs0.toList ∧ G24 s := by
    obtain ⟨fuel, hf⟩ := h0
    exact rd_S24 fuel _ _ hf
  obtain ⟨a0_0, l0_1, a0_2⟩ := s0
  obtain ⟨w0_0, w0_1, w0_2⟩ := w0
  obtain ⟨_, _, ecs0, rfl, ⟨_, _, rfl, ⟨A0_1, c0_1, rfl, hc0_1, hr0_1⟩, rfl⟩⟩ := hk0
  obtain ⟨lcs0⟩ := cs0
  simp only [] at ecs0
  subst ecs0
  clear hA0 hval0 hsz0 hsz
  have key : ∃ k, laws_FnExactLongestStreak.f k a0_0 l0_1 a0_2 = some true := Pure.FnExactLongestStreak a0_0 l0_1 a0_2 w0_0 w0_1 w0_2
  obtain ⟨k, hkey⟩ := key
  refine (laws_FnExactLongestStreak.calls k a0_0 _ _ l0_1 a0_2 true W hr0_1 hc0_1 hkey).mono fun e W' he => ?_
  obtain ⟨rfl, bel0⟩ := he
  have bel : Below W.heap.size W W' := bel0
  exact ⟨_, rfl, _, _, _, [], _, [], hW', trodAll_mk1 (shut_bool Try.underlying4 _), (trodAll_cons_mk (Below.trod laidOut (by kernel_rfl) (of_decide_eq_true (by kernel_rfl)) k0 bel lt0) trodAll_mk0), rfl, bel.frame _, fun h => by cases h⟩
theorem over : Rows.fnExactLongestStreakRow.holds Try.pinned (OpenSpec.ofChange Rows.fnExactLongestStreakSpec) :=
  OpenClaim.holds_of_wide 5 Try.f5 rfl rfl rfl rfl rfl rfl rfl ⟨rfl, rfl, rfl, rfl, rfl⟩ rfl rfl rfl rfl rfl (by kernel_rfl) Try.func5 (by kernel_rfl)
    (of_decide_eq_true (by kernel_rfl)) (by unfold Func.isWrapper; first | (rw [if_pos (by decide +kernel)]; kernel_rfl) | (rw [if_neg (by decide +kernel)]; exact ⟨rfl, rfl⟩))
    (fun os started H enc _ => lifted os started H enc)
theorem proved : Rows.FnExactLongestStreakSaid := over
#print axioms proved
end Go.Proofs.Ytnmfndfldhgaeaa.fnExactLongestStreak
namespace Go.Proofs.Ytnmfndfldhgaeaa
/-- The row, under a short name, for the claim. -/
theorem fnExactLongestStreak_holds : Rows.FnExactLongestStreakSaid := fnExactLongestStreak.proved
end Go.Proofs.Ytnmfndfldhgaeaa
