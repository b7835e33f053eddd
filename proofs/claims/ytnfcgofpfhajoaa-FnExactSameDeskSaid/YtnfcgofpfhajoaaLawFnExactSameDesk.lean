/- The row of the law FnExactSameDesk out of its plain statement: what the claim's reader takes in is of the printed kinds; the walk is the printed one. -/
import Derived.Test.YtnfcgofpfhajoaaRows
import Derived.Test.YtnfcgofpfhajoaaQFnExactSameDeskx11
import Derived.Test.YtnfcgofpfhajoaaPureFnExactSameDesk
import Derived.Test.YtnfcgofpfhajoaaReader
import Derived.WalkKit
import Derived.ProofKit
import Derived.OpenShut
import Derived.ShutString
import Derived.ChangeOld
import Derived.Below
import Derived.Carry
import Derived.SizedLaws
namespace Go.Proofs.Ytnfcgofpfhajoaa.fnExactSameDesk
open Go.ChangeShapes Go.WideShapes Go.ChangeAt Go.RowKit Go.Proofs.Ytnfcgofpfhajoaa.QFnExactSameDesk Go.Proofs.YtnfcgofpfhajoaaW.PrintWords Go.Proofs.Ytnfcgofpfhajoaa.Reader Go.Proofs.Ytnfcgofpfhajoaa.Pure
open Go.ChangeMaps (open_string shut_string)
set_option linter.unusedVariables false
structure S72 where
  f0 : Int
  f1 : List S174
  f2 : List ByteArray
  f3 : List S176
  f4 : List S144
  f5 : ByteArray
  f6 : ByteArray
def k72 : Kd S72 := Kd.iso (Kd.pair (Kd.int .i64) (Kd.pair (Kd.pair (Kd.slice 174 k174) (Kd.pair (Kd.slice 9 Kd.string) (Kd.slice 176 k176))) (Kd.pair (Kd.slice 144 k144) (Kd.pair Kd.string Kd.string)))) (fun x : S72 => (x.f0, (x.f1, x.f2, x.f3), x.f4, (x.f5, x.f6)))
def G72 (z : S72) : Prop := (Lit.int .i64 z.f0).wf = true ∧ (z.f1.length ≤ maxLen ∧ ∀ x ∈ z.f1, G174 x) ∧ (z.f2.length ≤ maxLen ∧ ∀ x ∈ z.f2, x.size ≤ maxLen) ∧ (z.f3.length ≤ maxLen ∧ ∀ x ∈ z.f3, G176 x) ∧ (z.f4.length ≤ maxLen ∧ ∀ x ∈ z.f4, G144 x) ∧ z.f5.size ≤ maxLen ∧ z.f6.size ≤ maxLen
theorem rd_S174 {H : Type} {enc : TypeId × Value → H} {W : World} : Rd enc Try.prog W 0 (fun _ => true) true 174 k174 G174 :=
  rd_imp (rd_iso (rd_struct Try.underlying174 (by kernel_rfl) (seg_cons rfl (by kernel_rfl) rfl (rd_string (by kernel_rfl)) (seg_cons rfl (by kernel_rfl) rfl (rd_string (by kernel_rfl)) (seg_one rfl (by kernel_rfl) (rd_int (by kernel_rfl)))))) (fun x : S174 => (x.f0, x.f1, x.f2)) (fun p => ⟨p.1, p.2.1, p.2.2⟩) (fun _ => rfl)) (fun x h => h)
theorem rd_S176 {H : Type} {enc : TypeId × Value → H} {W : World} : Rd enc Try.prog W 0 (fun _ => true) true 176 k176 G176 :=
  rd_imp (rd_iso (rd_struct Try.underlying176 (by kernel_rfl) (seg_cons rfl (by kernel_rfl) rfl (rd_string (by kernel_rfl)) (seg_cons rfl (by kernel_rfl) rfl (rd_string (by kernel_rfl)) (seg_one rfl (by kernel_rfl) (rd_int (by kernel_rfl)))))) (fun x : S176 => (x.f0, x.f1, x.f2)) (fun p => ⟨p.1, p.2.1, p.2.2⟩) (fun _ => rfl)) (fun x h => h)
theorem rd_S144 {H : Type} {enc : TypeId × Value → H} {W : World} : Rd enc Try.prog W 0 (fun _ => true) true 144 k144 G144 :=
  rd_imp (rd_iso (rd_struct Try.underlying144 (by kernel_rfl) (seg_cons rfl (by kernel_rfl) rfl (rd_string (by kernel_rfl)) (seg_one rfl (by kernel_rfl) (rd_int (by kernel_rfl))))) (fun x : S144 => (x.f0, x.f1)) (fun p => ⟨p.1, p.2⟩) (fun _ => rfl)) (fun x h => h)
theorem rd_S72 {H : Type} {enc : TypeId × Value → H} {W : World} : Rd enc Try.prog W 0 (fun _ => true) true 72 k72 G72 :=
  rd_imp (rd_iso (rd_struct Try.underlying72 (by kernel_rfl) (seg_cons rfl (by kernel_rfl) rfl (rd_int (by kernel_rfl)) (seg_cons rfl (by kernel_rfl) rfl (rd_struct Try.underlying67 (by kernel_rfl) (seg_cons rfl (by kernel_rfl) rfl (rd_slice (e := 174) (by kernel_rfl) (by kernel_rfl) rd_S174) (seg_cons rfl (by kernel_rfl) rfl (rd_slice (e := 9) (by kernel_rfl) (by kernel_rfl) (rd_string (by kernel_rfl))) (seg_one rfl (by kernel_rfl) (rd_slice (e := 176) (by kernel_rfl) (by kernel_rfl) rd_S176))))) (seg_cons rfl (by kernel_rfl) rfl (rd_slice (e := 144) (by kernel_rfl) (by kernel_rfl) rd_S144) (seg_one rfl (by kernel_rfl) (rd_struct Try.underlying70 (by kernel_rfl) (seg_cons rfl (by kernel_rfl) rfl (rd_string (by kernel_rfl)) (seg_one rfl (by kernel_rfl) (rd_string (by kernel_rfl)))))))))) (fun x : S72 => (x.f0, (x.f1, x.f2, x.f3), x.f4, (x.f5, x.f6))) (fun p => ⟨p.1, p.2.1.1, p.2.1.2.1, p.2.1.2.2, p.2.2.1, p.2.2.2.1, p.2.2.2.2⟩) (fun _ => rfl)) (fun x h => ⟨h.1, h.2.1.1, h.2.1.2.1, h.2.1.2.2, h.2.2.1, h.2.2.2.1, h.2.2.2.2⟩)
theorem own : ownKnob Try.prog.godebug = none := by kernel_rfl
theorem laidOut : laidOutB Try.prog = true := by kernel_rfl
set_option maxRecDepth 100000 in
theorem lifted (os : Os) (started : os.Started) (H : Type) (enc : TypeId × Value → H) :
    ReturnsInHanded {} Try.checked os 7 .any (Rows.fnExactSameDeskSpec.pre6 enc Try.prog Try.f7 Rows.fnExactSameDeskRow.domain false) (Rows.fnExactSameDeskSpec.post enc Try.prog Try.f7 false true false false) := by
  refine returnsInHanded_of_change_sized (C := Try.checked) own started (by kernel_rfl) Try.func7
    (ChangeSpec.witness6 (enc := enc) (C := Try.checked) false ⟨#[], #[.agg #[.int .i64 0, .slice none 0 0, .slice none 0 0, .slice none 0 0, .slice none 0 0, .string ByteArray.empty, .string ByteArray.empty], .agg #[.int .i64 0, .slice none 0 0, .slice none 0 0, .slice none 0 0, .slice none 0 0, .string ByteArray.empty, .string ByteArray.empty]], []⟩ 8 (by kernel_rfl) (by kernel_rfl) (by kernel_rfl) (by kernel_rfl)) ?_
  intro W base args ds gs before hval0 hW hcnd hsz0 _
  have hsz : (DataW.weightsEach Try.prog (Try.f7.params.toList ++ Rows.fnExactSameDeskSpec.plain.varTypes Try.prog) (ds ++ gs)).all (· ≤ reachBytes) = true := hsz0
  have hval : ∀ (j : Nat) t v, Try.f7.params[j]? = some t → args[j]? = some v → Value.okWide Try.prog W .any base t v := hval0
  have hW' := hW
  obtain ⟨p, q, hA0, hV, rfl, hfz, hnd⟩ := hW
  have hA : DataW.TrodAll enc Try.prog W 0 (fun _ => true) true Try.f7.params.toList args.toList ds p := hA0
  rw [Try.params7] at hA hval hsz
  obtain ⟨v0, vs0, d0, ds0, p0, q0, hargs, rfl, rfl, h0, r0⟩ := trodAll_cons hA
  obtain ⟨v1, vs1, d1, ds1, p1, q1, rfl, rfl, rfl, h1, r1⟩ := trodAll_cons r0
  obtain ⟨rfl, rfl, rfl⟩ := trodAll_nil r1
  obtain rfl : args = #[v0, v1] := by cases args; simp_all
  obtain ⟨rfl, rfl⟩ := trodVars_none hV
  obtain ⟨cs0, rfl, _⟩ := okWide_struct Try.underlying72 (hval 0 72 v0 rfl rfl)
  have k0 := h0
  have lt0 : ∀ x ∈ p0, x.block < W.heap.size := by obtain ⟨m, hm⟩ := k0; exact DataW.trod_lt m _ _ _ hm
  obtain ⟨s0, hk0, w0⟩ : ∃ s : S72, k72.K W s cs0.toList ∧ G72 s := by
    obtain ⟨fuel, hf⟩ := h0
    exact rd_S72 fuel _ _ hf
  obtain ⟨a0_0, l0_1, l0_2, l0_3, l0_4, a0_5, a0_6⟩ := s0
  obtain ⟨w0_0, w0_1, w0_2, w0_3, w0_4, w0_5, w0_6⟩ := w0
  obtain ⟨_, _, ecs0, rfl, ⟨_, _, rfl, ⟨_, _, rfl, ⟨A0_1, c0_1, rfl, hc0_1, hr0_1⟩, ⟨_, _, rfl, ⟨A0_2, c0_2, rfl, hc0_2, hr0_2⟩, ⟨A0_3, c0_3, rfl, hc0_3, hr0_3⟩⟩⟩, ⟨_, _, rfl, ⟨A0_4, c0_4, rfl, hc0_4, hr0_4⟩, ⟨_, _, rfl, rfl, rfl⟩⟩⟩⟩ := hk0
  obtain ⟨lcs0⟩ := cs0
  simp only [] at ecs0
  subst ecs0
  obtain ⟨cs1, rfl, _⟩ := okWide_struct Try.underlying72 (hval 1 72 v1 rfl rfl)
  have k1 := h1
  have lt1 : ∀ x ∈ p1, x.block < W.heap.size := by obtain ⟨m, hm⟩ := k1; exact DataW.trod_lt m _ _ _ hm
  obtain ⟨s1, hk1, w1⟩ : ∃ s : S72, k72.K W s cs1.toList ∧ G72 s := by
    obtain ⟨fuel, hf⟩ := h1
    exact rd_S72 fuel _ _ hf
  obtain ⟨a1_0, l1_1, l1_2, l1_3, l1_4, a1_5, a1_6⟩ := s1
  obtain ⟨w1_0, w1_1, w1_2, w1_3, w1_4, w1_5, w1_6⟩ := w1
  obtain ⟨_, _, ecs1, rfl, ⟨_, _, rfl, ⟨_, _, rfl, ⟨A1_1, c1_1, rfl, hc1_1, hr1_1⟩, ⟨_, _, rfl, ⟨A1_2, c1_2, rfl, hc1_2, hr1_2⟩, ⟨A1_3, c1_3, rfl, hc1_3, hr1_3⟩⟩⟩, ⟨_, _, rfl, ⟨A1_4, c1_4, rfl, hc1_4, hr1_4⟩, ⟨_, _, rfl, rfl, rfl⟩⟩⟩⟩ := hk1
  obtain ⟨lcs1⟩ := cs1
  simp only [] at ecs1
  subst ecs1
  clear hA0 hval0 hsz0 hsz
  have key : ∃ k, laws_FnExactSameDesk.f k a0_0 l0_1 l0_2 l0_3 l0_4 a0_5 a0_6 a1_0 l1_1 l1_2 l1_3 l1_4 a1_5 a1_6 = some true := Pure.FnExactSameDesk a0_0 l0_1 l0_2 l0_3 l0_4 a0_5 a0_6 a1_0 l1_1 l1_2 l1_3 l1_4 a1_5 a1_6 w0_0 w0_1 w0_2 w0_3 w0_4 w0_5 w0_6 w1_0 w1_1 w1_2 w1_3 w1_4 w1_5 w1_6
  obtain ⟨k, hkey⟩ := key
  refine (laws_FnExactSameDesk.calls k a0_0 _ _ l0_1 _ _ l0_2 _ _ l0_3 _ _ l0_4 a0_5 a0_6 a1_0 _ _ l1_1 _ _ l1_2 _ _ l1_3 _ _ l1_4 a1_5 a1_6 true W hr0_1 hc0_1 hr0_2 hc0_2 hr0_3 hc0_3 hr0_4 hc0_4 hr1_1 hc1_1 hr1_2 hc1_2 hr1_3 hc1_3 hr1_4 hc1_4 hkey).mono fun e W' he => ?_
  obtain ⟨rfl, bel0⟩ := he
  have bel : Below W.heap.size W W' := bel0
  exact ⟨_, rfl, _, _, _, [], _, [], hW', trodAll_mk1 (shut_bool Try.underlying4 _), (trodAll_cons_mk (Below.trod laidOut (by kernel_rfl) (of_decide_eq_true (by kernel_rfl)) k0 bel lt0) (trodAll_cons_mk (Below.trod laidOut (by kernel_rfl) (of_decide_eq_true (by kernel_rfl)) k1 bel lt1) trodAll_mk0)), rfl, bel.frame _, fun h => by cases h⟩
theorem over : Rows.fnExactSameDeskRow.holds Try.pinned (OpenSpec.ofChange Rows.fnExactSameDeskSpec) :=
  OpenClaim.holds_of_wide 7 Try.f7 rfl rfl rfl rfl rfl rfl rfl ⟨rfl, rfl, rfl, rfl, rfl⟩ rfl rfl rfl rfl rfl (by kernel_rfl) Try.func7 (by kernel_rfl)
    (of_decide_eq_true (by kernel_rfl)) (by unfold Func.isWrapper; first | (rw [if_pos (by decide +kernel)]; kernel_rfl) | (rw [if_neg (by decide +kernel)]; exact ⟨rfl, rfl⟩))
    (fun os started H enc _ => lifted os started H enc)
theorem proved : Rows.FnExactSameDeskSaid := over
#print axioms proved
end Go.Proofs.Ytnfcgofpfhajoaa.fnExactSameDesk
namespace Go.Proofs.Ytnfcgofpfhajoaa
/-- The row, under a short name, for the claim. -/
theorem fnExactSameDesk_holds : Rows.FnExactSameDeskSaid := fnExactSameDesk.proved
end Go.Proofs.Ytnfcgofpfhajoaa
