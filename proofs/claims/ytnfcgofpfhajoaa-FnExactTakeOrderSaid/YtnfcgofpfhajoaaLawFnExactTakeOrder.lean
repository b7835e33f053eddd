/- The row of the law FnExactTakeOrder out of its plain statement: what the claim's reader takes in is of the printed kinds; the walk is the printed one. -/
import Derived.Test.YtnfcgofpfhajoaaRows
import Derived.Test.YtnfcgofpfhajoaaQFnExactTakeOrderx8
import Derived.Test.YtnfcgofpfhajoaaPureFnExactTakeOrder
import Derived.Test.YtnfcgofpfhajoaaReader
import Derived.WalkKit
import Derived.ProofKit
import Derived.OpenShut
import Derived.ShutString
import Derived.ChangeOld
import Derived.Below
import Derived.Carry
import Derived.SizedLaws
namespace Go.Proofs.Ytnfcgofpfhajoaa.fnExactTakeOrder
open Go.ChangeShapes Go.WideShapes Go.ChangeAt Go.RowKit Go.Proofs.Ytnfcgofpfhajoaa.QFnExactTakeOrder Go.Proofs.YtnfcgofpfhajoaaW.PrintWords Go.Proofs.Ytnfcgofpfhajoaa.Reader Go.Proofs.Ytnfcgofpfhajoaa.Pure
open Go.ChangeMaps (open_string shut_string)
set_option linter.unusedVariables false
theorem rd_S51 {H : Type} {enc : TypeId × Value → H} {W : World} : Rd enc Try.prog W 0 (fun _ => true) true 51 k51 G51 :=
  rd_imp (rd_iso (rd_struct Try.underlying51 (by kernel_rfl) (seg_cons rfl (by kernel_rfl) rfl (rd_int (by kernel_rfl)) (seg_cons rfl (by kernel_rfl) rfl (rd_string (by kernel_rfl)) (seg_cons rfl (by kernel_rfl) rfl (rd_int (by kernel_rfl)) (seg_cons rfl (by kernel_rfl) rfl (rd_int (by kernel_rfl)) (seg_one rfl (by kernel_rfl) (rd_int (by kernel_rfl)))))))) (fun x : S51 => (x.f0, x.f1, x.f2, x.f3, x.f4)) (fun p => ⟨p.1, p.2.1, p.2.2.1, p.2.2.2.1, p.2.2.2.2⟩) (fun _ => rfl)) (fun x h => h)
theorem own : ownKnob Try.prog.godebug = none := by kernel_rfl
theorem laidOut : laidOutB Try.prog = true := by kernel_rfl
set_option maxRecDepth 100000 in
theorem lifted (os : Os) (started : os.Started) (H : Type) (enc : TypeId × Value → H) :
    ReturnsInHanded {} Try.checked os 6 .any (Rows.fnExactTakeOrderSpec.pre6 enc Try.prog Try.f6 Rows.fnExactTakeOrderRow.domain false) (Rows.fnExactTakeOrderSpec.post enc Try.prog Try.f6 false true false false) := by
  refine returnsInHanded_of_change_sized (C := Try.checked) own started (by kernel_rfl) Try.func6
    (ChangeSpec.witness6 (enc := enc) (C := Try.checked) false ⟨#[], #[.slice none 0 0, .agg #[.int .i64 0, .string ByteArray.empty, .int .i64 0, .int .i64 0, .int .i64 0]], []⟩ 8 (by kernel_rfl) (by kernel_rfl) (by kernel_rfl) (by kernel_rfl)) ?_
  intro W base args ds gs before hval0 hW hcnd hsz0 _
  have hsz : (DataW.weightsEach Try.prog (Try.f6.params.toList ++ Rows.fnExactTakeOrderSpec.plain.varTypes Try.prog) (ds ++ gs)).all (· ≤ reachBytes) = true := hsz0
  have hval : ∀ (j : Nat) t v, Try.f6.params[j]? = some t → args[j]? = some v → Value.okWide Try.prog W .any base t v := hval0
  have hW' := hW
  obtain ⟨p, q, hA0, hV, rfl, hfz, hnd⟩ := hW
  have hA : DataW.TrodAll enc Try.prog W 0 (fun _ => true) true Try.f6.params.toList args.toList ds p := hA0
  rw [Try.params6] at hA hval hsz
  obtain ⟨v0, vs0, d0, ds0, p0, q0, hargs, rfl, rfl, h0, r0⟩ := trodAll_cons hA
  obtain ⟨v1, vs1, d1, ds1, p1, q1, rfl, rfl, rfl, h1, r1⟩ := trodAll_cons r0
  obtain ⟨rfl, rfl, rfl⟩ := trodAll_nil r1
  obtain rfl : args = #[v0, v1] := by cases args; simp_all
  obtain ⟨rfl, rfl⟩ := trodVars_none hV
  obtain ⟨b0, len0, cap0, rfl⟩ := okWide_slice Try.underlying49 (hval 0 49 v0 rfl rfl)
  have k0 := h0
  have lt0 : ∀ x ∈ p0, x.block < W.heap.size := by obtain ⟨m, hm⟩ := k0; exact DataW.trod_lt m _ _ _ hm
  obtain ⟨l0, hc0, hr0, w0⟩ : ∃ l : List S51, (∃ A c, Value.slice b0 len0 cap0 = .slice A l.length c ∧ l.length ≤ c ∧ Kd.C k51 W A l.length l) ∧ True ∧ (l.length ≤ maxLen ∧ ∀ x ∈ l, G51 x) := by
    obtain ⟨fuel, hf⟩ := h0
    obtain ⟨l, ⟨A, c, hcs, hc, hr⟩, hg⟩ := rd_slice (q := 0) Try.underlying49 (by kernel_rfl) rd_S51 fuel _ _ hf
    simp only [Value.cells, List.cons.injEq, and_true] at hcs
    exact ⟨l, ⟨A, c, hcs, hc, hr⟩, trivial, hg⟩
  clear hr0
  obtain ⟨A0, c0, e0, hc0, hr0⟩ := hc0
  cases e0
  obtain ⟨cs1, rfl, _⟩ := okWide_struct Try.underlying51 (hval 1 51 v1 rfl rfl)
  have k1 := h1
  have lt1 : ∀ x ∈ p1, x.block < W.heap.size := by obtain ⟨m, hm⟩ := k1; exact DataW.trod_lt m _ _ _ hm
  obtain ⟨s1, hk1, w1⟩ : ∃ s : S51, k51.K W s cs1.toList ∧ G51 s := by
    obtain ⟨fuel, hf⟩ := h1
    exact rd_S51 fuel _ _ hf
  clear hA0 hval0 hsz0 hsz
  have key : ∃ k, laws_FnExactTakeOrder.f k l0 s1.f0 s1.f1 s1.f2 s1.f3 s1.f4 = some true := Pure.FnExactTakeOrder l0 s1 w0 w1
  obtain ⟨k, hkey⟩ := key
  -- cs = [.int .i64 x.f0, .string x.f1, .int .i64 x.f2, .int .i64 x.f3, .int .i64 x.f4]
  have ecs1 := k51_open hk1
  obtain ⟨lcs1⟩ := cs1
  simp only [] at ecs1
  subst ecs1
  refine (laws_FnExactTakeOrder.calls k _ _ l0 s1.f0 s1.f1 s1.f2 s1.f3 s1.f4 true W hr0 hc0 hkey).mono fun e W' he => ?_
  obtain ⟨rfl, bel0⟩ := he
  have bel : Below W.heap.size W W' := bel0
  exact ⟨_, rfl, _, _, _, [], _, [], hW', trodAll_mk1 (shut_bool Try.underlying4 _), (trodAll_cons_mk (Below.trod laidOut (by kernel_rfl) (of_decide_eq_true (by kernel_rfl)) k0 bel lt0) (trodAll_cons_mk (Below.trod laidOut (by kernel_rfl) (of_decide_eq_true (by kernel_rfl)) k1 bel lt1) trodAll_mk0)), rfl, bel.frame _, fun h => by cases h⟩
theorem over : Rows.fnExactTakeOrderRow.holds Try.pinned (OpenSpec.ofChange Rows.fnExactTakeOrderSpec) :=
  OpenClaim.holds_of_wide 6 Try.f6 rfl rfl rfl rfl rfl rfl rfl ⟨rfl, rfl, rfl, rfl, rfl⟩ rfl rfl rfl rfl rfl (by kernel_rfl) Try.func6 (by kernel_rfl)
    (of_decide_eq_true (by kernel_rfl)) (by unfold Func.isWrapper; first | (rw [if_pos (by decide +kernel)]; kernel_rfl) | (rw [if_neg (by decide +kernel)]; exact ⟨rfl, rfl⟩))
    (fun os started H enc _ => lifted os started H enc)
theorem proved : Rows.FnExactTakeOrderSaid := over
#print axioms proved
end Go.Proofs.Ytnfcgofpfhajoaa.fnExactTakeOrder
namespace Go.Proofs.Ytnfcgofpfhajoaa
/-- The row, under a short name, for the claim. -/
theorem fnExactTakeOrder_holds : Rows.FnExactTakeOrderSaid := fnExactTakeOrder.proved
end Go.Proofs.Ytnfcgofpfhajoaa
