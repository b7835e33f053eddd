/- The row of the law FnExactWriteEntry out of its plain statement: what the claim's reader takes in is of the printed kinds; the walk is the printed one. -/
import Derived.Lay
import Derived.Test.YtlcgonaapmmnkaaDoorRows
import Derived.Test.YtlcgonaapmmnkaaDoorQLogx18
import Derived.Test.YtlcgonaapmmnkaaDoorPureFnExactWriteEntry
import Derived.Test.YtlcgonaapmmnkaaDoorReader
import Derived.WalkKit
import Derived.ProofKit
import Derived.OpenShut
import Derived.ShutString
import Derived.ChangeOld
import Derived.Below
import Derived.Carry
import Derived.SizedLaws
import Derived.Test.YtlcgonaapmmnkaaDoorCards
import Derived.Test.YtlcgonaapmmnkaaDoorTie
import Derived.Test.YtlcgonaapmmnkaaDoorDoorRow
import Derived.Deep.DeepHandedRow
import Derived.LaidMore
import Derived.LaidHandle
import Derived.SevenTiedAt
namespace Go.Proofs.YtlcgonaapmmnkaaDoor.fnExactWriteEntry
open Go.ChangeShapes Go.WideShapes Go.ChangeAt Go.RowKit Go.Proofs.YtlcgonaapmmnkaaDoor.QLog Go.Proofs.YtlcgonaapmmnkaaDoorW.PrintWords Go.Proofs.YtlcgonaapmmnkaaDoor.Reader Go.Proofs.YtlcgonaapmmnkaaDoor.Pure
open Go.ChangeMaps (open_string shut_string)
set_option linter.unusedVariables false
structure S30 where
  f0 : ByteArray
  f1 : ByteArray
def k30 : Kd S30 := Kd.iso (Kd.pair Kd.string Kd.string) (fun x : S30 => (x.f0, x.f1))
def G30 (z : S30) : Prop := z.f0.size ≤ maxLen ∧ z.f1.size ≤ maxLen
structure S23 where
  f0 : Int
  f1 : ByteArray
  f2 : ByteArray
def k23 : Kd S23 := Kd.iso (Kd.pair (Kd.int .i64) (Kd.pair Kd.string Kd.string)) (fun x : S23 => (x.f0, x.f1, x.f2))
def G23 (z : S23) : Prop := (Lit.int .i64 z.f0).wf = true ∧ z.f1.size ≤ maxLen ∧ z.f2.size ≤ maxLen
theorem rd_S30 {H : Type} {enc : TypeId × Value → H} {W : World} : Rd enc Tryd.prog W 0 (fun _ => true) true 30 k30 G30 :=
  rd_imp (rd_iso (rd_struct Tryd.underlying30 (by kernel_rfl) (seg_cons rfl (by kernel_rfl) rfl (rd_string (by kernel_rfl)) (seg_one rfl (by kernel_rfl) (rd_string (by kernel_rfl))))) (fun x : S30 => (x.f0, x.f1)) (fun p => ⟨p.1, p.2⟩) (fun _ => rfl)) (fun x h => h)
theorem rd_S23 {H : Type} {enc : TypeId × Value → H} {W : World} : Rd enc Tryd.prog W 0 (fun _ => true) true 23 k23 G23 :=
  rd_imp (rd_iso (rd_struct Tryd.underlying23 (by kernel_rfl) (seg_cons rfl (by kernel_rfl) rfl (rd_int (by kernel_rfl)) (seg_cons rfl (by kernel_rfl) rfl (rd_string (by kernel_rfl)) (seg_one rfl (by kernel_rfl) (rd_string (by kernel_rfl)))))) (fun x : S23 => (x.f0, x.f1, x.f2)) (fun p => ⟨p.1, p.2.1, p.2.2⟩) (fun _ => rfl)) (fun x h => h)
theorem own : ownKnob Tryd.prog.godebug = none := by kernel_rfl
theorem laidOut : laidOutB Tryd.prog = true := by kernel_rfl
set_option maxRecDepth 100000 in
theorem contract (H : Type) (enc : TypeId × Value → H) (W : World) (base : Nat) (args : Array Value) (ds gs : List (DataW H)) (before : List MemPlace)
    (hval0 : ∀ (j : Nat) t v, Tryd.f8.params[j]? = some t → args[j]? = some v → Value.okWide Tryd.prog W .any base t v)
    (hW : DataW.Whole enc Tryd.prog Tryd.f8.params.toList Rows.fnExactWriteEntrySpec.vars false W args.toList ds gs before)
    (hsz0 : (DataW.weightsEach Tryd.prog (Tryd.f8.params.toList ++ Rows.fnExactWriteEntrySpec.plain.varTypes Tryd.prog) (ds ++ gs)).all (· ≤ reachBytes) = true) (hT : Go.Proofs.YtlcgonaapmmnkaaDoor.Base.Tb2 W) :
    Calls Tryd.prog 8 args W fun e W' => ∃ v, e = .returned v ∧ Rows.fnExactWriteEntrySpec.post enc Tryd.prog Tryd.f8 false true false false W args v W' := by
  have hsz : (DataW.weightsEach Tryd.prog (Tryd.f8.params.toList ++ Rows.fnExactWriteEntrySpec.plain.varTypes Tryd.prog) (ds ++ gs)).all (· ≤ reachBytes) = true := hsz0
  have hval : ∀ (j : Nat) t v, Tryd.f8.params[j]? = some t → args[j]? = some v → Value.okWide Tryd.prog W .any base t v := hval0
  have hW' := hW
  obtain ⟨p, q, hA0, hV, rfl, hfz, hnd⟩ := hW
  have hA : DataW.TrodAll enc Tryd.prog W 0 (fun _ => true) true Tryd.f8.params.toList args.toList ds p := hA0
  rw [Tryd.params8] at hA hval hsz
  obtain ⟨v0, vs0, d0, ds0, p0, q0, hargs, rfl, rfl, h0, r0⟩ := trodAll_cons hA
  obtain ⟨v1, vs1, d1, ds1, p1, q1, rfl, rfl, rfl, h1, r1⟩ := trodAll_cons r0
  obtain ⟨rfl, rfl, rfl⟩ := trodAll_nil r1
  obtain rfl : args = #[v0, v1] := by cases args; simp_all
  obtain ⟨rfl, rfl⟩ := trodVars_none hV
  obtain ⟨cs0, rfl, _⟩ := okWide_struct Tryd.underlying30 (hval 0 30 v0 rfl rfl)
  have k0 := h0
  have lt0 : ∀ x ∈ p0, x.block < W.heap.size := by obtain ⟨m, hm⟩ := k0; exact DataW.trod_lt m _ _ _ hm
  obtain ⟨s0, hk0, w0⟩ : ∃ s : S30, k30.K W s cs0.toList ∧ G30 s := by
    obtain ⟨fuel, hf⟩ := h0
    exact rd_S30 fuel _ _ hf
  obtain ⟨a0_0, a0_1⟩ := s0
  obtain ⟨w0_0, w0_1⟩ := w0
  obtain ⟨_, _, ecs0, rfl, rfl⟩ := hk0
  obtain ⟨lcs0⟩ := cs0
  simp only [] at ecs0
  subst ecs0
  obtain ⟨cs1, rfl, _⟩ := okWide_struct Tryd.underlying23 (hval 1 23 v1 rfl rfl)
  have k1 := h1
  have lt1 : ∀ x ∈ p1, x.block < W.heap.size := by obtain ⟨m, hm⟩ := k1; exact DataW.trod_lt m _ _ _ hm
  obtain ⟨s1, hk1, w1⟩ : ∃ s : S23, k23.K W s cs1.toList ∧ G23 s := by
    obtain ⟨fuel, hf⟩ := h1
    exact rd_S23 fuel _ _ hf
  obtain ⟨a1_0, a1_1, a1_2⟩ := s1
  obtain ⟨w1_0, w1_1, w1_2⟩ := w1
  obtain ⟨_, _, ecs1, rfl, ⟨_, _, rfl, rfl, rfl⟩⟩ := hk1
  obtain ⟨lcs1⟩ := cs1
  simp only [] at ecs1
  subst ecs1
  clear hA0 hval0 hsz0 hsz
  have key : ∃ k, laws_FnExactWriteEntry.f k a0_0 a0_1 a1_0 a1_1 a1_2 = some true := Pure.FnExactWriteEntry a0_0 a0_1 a1_0 a1_1 a1_2 w0_0 w0_1 w1_0 w1_1 w1_2
  obtain ⟨k, hkey⟩ := key
  refine (laws_FnExactWriteEntry.calls k a0_0 a0_1 a1_0 a1_1 a1_2 true W hkey hT).mono fun e W' he => ?_
  obtain ⟨rfl, bel0⟩ := he
  have bel : Below W.heap.size W W' := bel0
  exact ⟨_, rfl, _, _, _, [], _, [], hW', trodAll_mk1 (shut_bool Tryd.underlying4 _), (trodAll_cons_mk (Below.trod laidOut (by kernel_rfl) (of_decide_eq_true (by kernel_rfl)) k0 bel lt0) (trodAll_cons_mk (Below.trod laidOut (by kernel_rfl) (of_decide_eq_true (by kernel_rfl)) k1 bel lt1) trodAll_mk0)), rfl, bel.frame _, fun h => by cases h⟩
theorem laid_met (os : Os) : laidMetH Tryd.prog Rows.fnExactWriteEntryRow.laid ((World.laidAll Tryd.prog os Rows.fnExactWriteEntryRow.laid).forCall (fun _ _ => 0) ⟨#[], #[.agg #[.string ByteArray.empty, .string ByteArray.empty], .agg #[.int .i64 0, .string ByteArray.empty, .string ByteArray.empty]], []⟩).memory := by rw [MakeChecks.laidMetH_plain _ _ _ (by kernel_rfl)]; exact laidMet_laidAll _ (by kernel_rfl) (by kernel_rfl)
set_option maxRecDepth 100000 in
theorem lifted (os : Os) (started : os.Started) (H : Type) (enc : TypeId × Value → H) (F : Stop.Interp) :
    ReturnsInHanded {} Tryd.checked os 8 .any ((OpenSpec.ofChange Rows.fnExactWriteEntrySpec).preRow enc Tryd.prog Tryd.f8 Rows.fnExactWriteEntryRow.domain false Rows.fnExactWriteEntryRow.laid) (((OpenSpec.ofChange Rows.fnExactWriteEntrySpec).at F).post enc Tryd.prog Tryd.f8 false true false false) := by
  refine returnsInHanded_of_row (C := Tryd.checked) (s := OpenSpec.ofChange Rows.fnExactWriteEntrySpec) own started (by kernel_rfl) Tryd.func8
    (ChangeSpec.witness_shaped (enc := enc) (C := Tryd.checked) (os := os) (s := Rows.fnExactWriteEntrySpec) (conds := Rows.fnExactWriteEntryRow.domain) (apart := false) (X := fun w _ => laidMetH Tryd.prog Rows.fnExactWriteEntryRow.laid w) false (World.laidAll Tryd.prog os Rows.fnExactWriteEntryRow.laid) #[.agg #[.string ByteArray.empty, .string ByteArray.empty], .agg #[.int .i64 0, .string ByteArray.empty, .string ByteArray.empty]] 8 (World.laidAll_os _ _ _) (World.shaped_of_ZipB (by kernel_rfl) (by kernel_rfl)) (by kernel_rfl) (by kernel_rfl) (by kernel_rfl) (laid_met os)) ?_
  intro W base args ds gs before hval hW _ _ hsz hL hSh _
  exact contract H enc W base args ds gs before hval hW hsz ⟨Base.tab_of hL (by kernel_rfl), Base.max_of hSh⟩
theorem said : Rows.FnExactWriteEntrySaid :=
  OpenClaim.holds_of_cond 8 Tryd.f8 rfl rfl rfl rfl rfl rfl rfl ⟨rfl, rfl, rfl, rfl, rfl⟩ rfl rfl rfl rfl rfl (by kernel_rfl) Tryd.func8 (by kernel_rfl)
    (of_decide_eq_true (by kernel_rfl)) (by unfold Func.isWrapper; first | (rw [if_pos (by decide +kernel)]; kernel_rfl) | (rw [if_neg (by decide +kernel)]; exact ⟨rfl, rfl⟩))
    (fun os started H enc _ F => by rw [OpenClaim.pre_eq_preRow]; exact lifted os started H enc F)
theorem plain (f : FuncId) (fn : Func) (hf : Tryd.pinned.checked.prog.funcNamed "loop.example/g01044/laws.FnExactWriteEntry" = some f) (hfn : Tryd.pinned.checked.prog.funcs[f]? = some fn) :
    false = Tryd.pinned.checked.prog.looks [] ∧ ∀ (j : Nat) t, fn.params[j]? = some t → Tryd.pinned.checked.prog.wantsStandIn t = false := by
  obtain rfl : f = 8 := Option.some.inj ((show Tryd.prog.funcNamed "loop.example/g01044/laws.FnExactWriteEntry" = some 8 by kernel_rfl).symm.trans hf) |>.symm
  obtain rfl : fn = Tryd.f8 := (Option.some.inj (Tryd.func8.symm.trans hfn)).symm
  refine ⟨by kernel_rfl, fun j t ht => ?_⟩
  rw [Tryd.params8] at ht
  have hm : t ∈ [30, 23] := by simpa using Array.mem_of_getElem? ht
  have hall : ([30, 23].all fun u => !Tryd.prog.wantsStandIn u) = true := by kernel_rfl
  exact (show Tryd.prog.wantsStandIn t = false by simpa using List.all_eq_true.1 hall t hm)
theorem card : Rows.FnExactWriteEntryCardSaid :=
  Claim7.holds_tied_plain_at .later [] _ _ _ _ said (fun _ h => by cases h) (by kernel_rfl) (fun _ h => by cases h) fnExactWriteEntry_row_tie rfl ⟨rfl, rfl⟩ (by kernel_rfl) rfl plain (by kernel_rfl)
#print axioms card
end Go.Proofs.YtlcgonaapmmnkaaDoor.fnExactWriteEntry
namespace Go.Proofs.YtlcgonaapmmnkaaDoor
/-- The tied card, under a short name, for the claim. -/
theorem fnExactWriteEntry_holds : Rows.FnExactWriteEntryCardSaid := fnExactWriteEntry.card
end Go.Proofs.YtlcgonaapmmnkaaDoor
