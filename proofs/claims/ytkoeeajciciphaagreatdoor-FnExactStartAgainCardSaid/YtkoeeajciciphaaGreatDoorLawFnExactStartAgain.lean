/- The row of the law FnExactStartAgain out of its plain statement: what the claim's reader takes in is of the printed kinds; the walk is the printed one. -/
import Derived.Lay
import Derived.Test.YtkoeeajciciphaaGreatDoorRows
import Derived.Test.YtkoeeajciciphaaGreatDoorQFnExactStartAgainx9
import Derived.Test.YtkoeeajciciphaaGreatDoorPureFnExactStartAgain
import Derived.Test.YtkoeeajciciphaaGreatDoorReader
import Derived.WalkKit
import Derived.ProofKit
import Derived.OpenShut
import Derived.ShutString
import Derived.ChangeOld
import Derived.Below
import Derived.Carry
import Derived.SizedLaws
import Derived.Test.YtkoeeajciciphaaGreatDoorCards
import Derived.Test.YtkoeeajciciphaaGreatDoorTie
import Derived.Test.YtkoeeajciciphaaGreatDoorDoorRow
import Derived.Deep.DeepHandedRow
import Derived.LaidMore
import Derived.LaidHandle
import Derived.SevenTiedAt
namespace Go.Proofs.YtkoeeajciciphaaGreatDoor.fnExactStartAgain
open Go.ChangeShapes Go.WideShapes Go.ChangeAt Go.RowKit Go.Proofs.YtkoeeajciciphaaGreatDoor.QFnExactStartAgain Go.Proofs.YtkoeeajciciphaaGreatDoorW.PrintWords Go.Proofs.YtkoeeajciciphaaGreatDoor.Reader Go.Proofs.YtkoeeajciciphaaGreatDoor.Pure
open Go.ChangeMaps (open_string shut_string)
set_option linter.unusedVariables false
structure S31 where
  f0 : Int
  f1 : List S119
  f2 : List ByteArray
  f3 : List S121
  f4 : List S88
  f5 : ByteArray
  f6 : ByteArray
def k31 : Kd S31 := Kd.iso (Kd.pair (Kd.int .i64) (Kd.pair (Kd.pair (Kd.slice 119 k119) (Kd.pair (Kd.slice 9 Kd.string) (Kd.slice 121 k121))) (Kd.pair (Kd.slice 88 k88) (Kd.pair Kd.string Kd.string)))) (fun x : S31 => (x.f0, (x.f1, x.f2, x.f3), x.f4, (x.f5, x.f6)))
def G31 (z : S31) : Prop := (Lit.int .i64 z.f0).wf = true ∧ (z.f1.length ≤ maxLen ∧ ∀ x ∈ z.f1, G119 x) ∧ (z.f2.length ≤ maxLen ∧ ∀ x ∈ z.f2, x.size ≤ maxLen) ∧ (z.f3.length ≤ maxLen ∧ ∀ x ∈ z.f3, G121 x) ∧ (z.f4.length ≤ maxLen ∧ ∀ x ∈ z.f4, G88 x) ∧ z.f5.size ≤ maxLen ∧ z.f6.size ≤ maxLen
theorem rd_S119 {H : Type} {enc : TypeId × Value → H} {W : World} : Rd enc Tryz.prog W 0 (fun _ => true) true 119 k119 G119 :=
  rd_imp (rd_iso (rd_struct Tryz.underlying119 (by kernel_rfl) (seg_cons rfl (by kernel_rfl) rfl (rd_string (by kernel_rfl)) (seg_cons rfl (by kernel_rfl) rfl (rd_string (by kernel_rfl)) (seg_one rfl (by kernel_rfl) (rd_int (by kernel_rfl)))))) (fun x : S119 => (x.f0, x.f1, x.f2)) (fun p => ⟨p.1, p.2.1, p.2.2⟩) (fun _ => rfl)) (fun x h => h)
theorem rd_S121 {H : Type} {enc : TypeId × Value → H} {W : World} : Rd enc Tryz.prog W 0 (fun _ => true) true 121 k121 G121 :=
  rd_imp (rd_iso (rd_struct Tryz.underlying121 (by kernel_rfl) (seg_cons rfl (by kernel_rfl) rfl (rd_string (by kernel_rfl)) (seg_cons rfl (by kernel_rfl) rfl (rd_string (by kernel_rfl)) (seg_one rfl (by kernel_rfl) (rd_int (by kernel_rfl)))))) (fun x : S121 => (x.f0, x.f1, x.f2)) (fun p => ⟨p.1, p.2.1, p.2.2⟩) (fun _ => rfl)) (fun x h => h)
theorem rd_S88 {H : Type} {enc : TypeId × Value → H} {W : World} : Rd enc Tryz.prog W 0 (fun _ => true) true 88 k88 G88 :=
  rd_imp (rd_iso (rd_struct Tryz.underlying88 (by kernel_rfl) (seg_cons rfl (by kernel_rfl) rfl (rd_string (by kernel_rfl)) (seg_one rfl (by kernel_rfl) (rd_int (by kernel_rfl))))) (fun x : S88 => (x.f0, x.f1)) (fun p => ⟨p.1, p.2⟩) (fun _ => rfl)) (fun x h => h)
theorem rd_S31 {H : Type} {enc : TypeId × Value → H} {W : World} : Rd enc Tryz.prog W 0 (fun _ => true) true 31 k31 G31 :=
  rd_imp (rd_iso (rd_struct Tryz.underlying31 (by kernel_rfl) (seg_cons rfl (by kernel_rfl) rfl (rd_int (by kernel_rfl)) (seg_cons rfl (by kernel_rfl) rfl (rd_struct Tryz.underlying26 (by kernel_rfl) (seg_cons rfl (by kernel_rfl) rfl (rd_slice (e := 119) (by kernel_rfl) (by kernel_rfl) rd_S119) (seg_cons rfl (by kernel_rfl) rfl (rd_slice (e := 9) (by kernel_rfl) (by kernel_rfl) (rd_string (by kernel_rfl))) (seg_one rfl (by kernel_rfl) (rd_slice (e := 121) (by kernel_rfl) (by kernel_rfl) rd_S121))))) (seg_cons rfl (by kernel_rfl) rfl (rd_slice (e := 88) (by kernel_rfl) (by kernel_rfl) rd_S88) (seg_one rfl (by kernel_rfl) (rd_struct Tryz.underlying29 (by kernel_rfl) (seg_cons rfl (by kernel_rfl) rfl (rd_string (by kernel_rfl)) (seg_one rfl (by kernel_rfl) (rd_string (by kernel_rfl)))))))))) (fun x : S31 => (x.f0, (x.f1, x.f2, x.f3), x.f4, (x.f5, x.f6))) (fun p => ⟨p.1, p.2.1.1, p.2.1.2.1, p.2.1.2.2, p.2.2.1, p.2.2.2.1, p.2.2.2.2⟩) (fun _ => rfl)) (fun x h => ⟨h.1, h.2.1.1, h.2.1.2.1, h.2.1.2.2, h.2.2.1, h.2.2.2.1, h.2.2.2.2⟩)
theorem own : ownKnob Tryz.prog.godebug = none := by kernel_rfl
theorem laidOut : laidOutB Tryz.prog = true := by kernel_rfl
set_option maxRecDepth 100000 in
theorem contract (H : Type) (enc : TypeId × Value → H) (W : World) (base : Nat) (args : Array Value) (ds gs : List (DataW H)) (before : List MemPlace)
    (hval0 : ∀ (j : Nat) t v, Tryz.f5.params[j]? = some t → args[j]? = some v → Value.okWide Tryz.prog W .any base t v)
    (hW : DataW.Whole enc Tryz.prog Tryz.f5.params.toList Rows.fnExactStartAgainSpec.vars false W args.toList ds gs before)
    (hsz0 : (DataW.weightsEach Tryz.prog (Tryz.f5.params.toList ++ Rows.fnExactStartAgainSpec.plain.varTypes Tryz.prog) (ds ++ gs)).all (· ≤ reachBytes) = true) (hT : Go.Proofs.YtkoeeajciciphaaGreatDoor.Base.Tb2 W) :
    Calls Tryz.prog 5 args W fun e W' => ∃ v, e = .returned v ∧ Rows.fnExactStartAgainSpec.post enc Tryz.prog Tryz.f5 false true false false W args v W' := by
  have hsz : (DataW.weightsEach Tryz.prog (Tryz.f5.params.toList ++ Rows.fnExactStartAgainSpec.plain.varTypes Tryz.prog) (ds ++ gs)).all (· ≤ reachBytes) = true := hsz0
  have hval : ∀ (j : Nat) t v, Tryz.f5.params[j]? = some t → args[j]? = some v → Value.okWide Tryz.prog W .any base t v := hval0
  have hW' := hW
  obtain ⟨p, q, hA0, hV, rfl, hfz, hnd⟩ := hW
  have hA : DataW.TrodAll enc Tryz.prog W 0 (fun _ => true) true Tryz.f5.params.toList args.toList ds p := hA0
  rw [Tryz.params5] at hA hval hsz
  obtain ⟨v0, vs0, d0, ds0, p0, q0, hargs, rfl, rfl, h0, r0⟩ := trodAll_cons hA
  obtain ⟨v1, vs1, d1, ds1, p1, q1, rfl, rfl, rfl, h1, r1⟩ := trodAll_cons r0
  obtain ⟨rfl, rfl, rfl⟩ := trodAll_nil r1
  obtain rfl : args = #[v0, v1] := by cases args; simp_all
  obtain ⟨rfl, rfl⟩ := trodVars_none hV
  obtain ⟨cs0, rfl, _⟩ := okWide_struct Tryz.underlying31 (hval 0 31 v0 rfl rfl)
  have k0 := h0
  have lt0 : ∀ x ∈ p0, x.block < W.heap.size := by obtain ⟨m, hm⟩ := k0; exact DataW.trod_lt m _ _ _ hm
  obtain ⟨s0, hk0, w0⟩ : ∃ s : S31, k31.K W s cs0.toList ∧ G31 s := by
    obtain ⟨fuel, hf⟩ := h0
    exact rd_S31 fuel _ _ hf
  obtain ⟨a0_0, l0_1, l0_2, l0_3, l0_4, a0_5, a0_6⟩ := s0
  obtain ⟨w0_0, w0_1, w0_2, w0_3, w0_4, w0_5, w0_6⟩ := w0
  obtain ⟨_, _, ecs0, rfl, ⟨_, _, rfl, ⟨_, _, rfl, ⟨A0_1, c0_1, rfl, hc0_1, hr0_1⟩, ⟨_, _, rfl, ⟨A0_2, c0_2, rfl, hc0_2, hr0_2⟩, ⟨A0_3, c0_3, rfl, hc0_3, hr0_3⟩⟩⟩, ⟨_, _, rfl, ⟨A0_4, c0_4, rfl, hc0_4, hr0_4⟩, ⟨_, _, rfl, rfl, rfl⟩⟩⟩⟩ := hk0
  obtain ⟨lcs0⟩ := cs0
  simp only [] at ecs0
  subst ecs0
  obtain ⟨a1, rfl, rfl, rfl, w1⟩ := open_int Tryz.underlying2 (hval 1 2 v1 rfl rfl) h1
  clear hA0 hval0 hsz0 hsz
  have key : ∃ k, laws_FnExactStartAgain.f k a0_0 l0_1 l0_2 l0_3 l0_4 a0_5 a0_6 a1 = some true := Pure.FnExactStartAgain a0_0 l0_1 l0_2 l0_3 l0_4 a0_5 a0_6 a1 w0_0 w0_1 w0_2 w0_3 w0_4 w0_5 w0_6 w1
  obtain ⟨k, hkey⟩ := key
  refine (laws_FnExactStartAgain.calls k a0_0 _ _ l0_1 _ _ l0_2 _ _ l0_3 _ _ l0_4 a0_5 a0_6 a1 true W hr0_1 hc0_1 hr0_2 hc0_2 hr0_3 hc0_3 hr0_4 hc0_4 hkey hT).mono fun e W' he => ?_
  obtain ⟨rfl, bel0⟩ := he
  have bel : Below W.heap.size W W' := bel0
  exact ⟨_, rfl, _, _, _, [], _, [], hW', trodAll_mk1 (shut_bool Tryz.underlying4 _), (trodAll_cons_mk (Below.trod laidOut (by kernel_rfl) (of_decide_eq_true (by kernel_rfl)) k0 bel lt0) (trodAll_cons_mk (shut_int Tryz.underlying2 w1) trodAll_mk0)), rfl, bel.frame _, fun h => by cases h⟩
theorem laid_met (os : Os) : laidMetH Tryz.prog Rows.fnExactStartAgainRow.laid ((World.laidAll Tryz.prog os Rows.fnExactStartAgainRow.laid).forCall (fun _ _ => 0) ⟨#[], #[.agg #[.int .i64 0, .slice none 0 0, .slice none 0 0, .slice none 0 0, .slice none 0 0, .string ByteArray.empty, .string ByteArray.empty], .int .i64 0], []⟩).memory := by rw [MakeChecks.laidMetH_plain _ _ _ (by kernel_rfl)]; exact laidMet_laidAll _ (by kernel_rfl) (by kernel_rfl)
set_option maxRecDepth 100000 in
theorem lifted (os : Os) (started : os.Started) (H : Type) (enc : TypeId × Value → H) (F : Stop.Interp) :
    ReturnsInHanded {} Tryz.checked os 5 .any ((OpenSpec.ofChange Rows.fnExactStartAgainSpec).preRow enc Tryz.prog Tryz.f5 Rows.fnExactStartAgainRow.domain false Rows.fnExactStartAgainRow.laid) (((OpenSpec.ofChange Rows.fnExactStartAgainSpec).at F).post enc Tryz.prog Tryz.f5 false true false false) := by
  refine returnsInHanded_of_row (C := Tryz.checked) (s := OpenSpec.ofChange Rows.fnExactStartAgainSpec) own started (by kernel_rfl) Tryz.func5
    (ChangeSpec.witness_shaped (enc := enc) (C := Tryz.checked) (os := os) (s := Rows.fnExactStartAgainSpec) (conds := Rows.fnExactStartAgainRow.domain) (apart := false) (X := fun w _ => laidMetH Tryz.prog Rows.fnExactStartAgainRow.laid w) false (World.laidAll Tryz.prog os Rows.fnExactStartAgainRow.laid) #[.agg #[.int .i64 0, .slice none 0 0, .slice none 0 0, .slice none 0 0, .slice none 0 0, .string ByteArray.empty, .string ByteArray.empty], .int .i64 0] 8 (World.laidAll_os _ _ _) (World.shaped_of_ZipB (by kernel_rfl) (by kernel_rfl)) (by kernel_rfl) (by kernel_rfl) (by kernel_rfl) (laid_met os)) ?_
  intro W base args ds gs before hval hW _ _ hsz hL hSh _
  exact contract H enc W base args ds gs before hval hW hsz ⟨Base.tab_of hL (by kernel_rfl), Base.max_of hSh⟩
theorem said : Rows.FnExactStartAgainSaid :=
  OpenClaim.holds_of_cond 5 Tryz.f5 rfl rfl rfl rfl rfl rfl rfl ⟨rfl, rfl, rfl, rfl, rfl⟩ rfl rfl rfl rfl rfl (by kernel_rfl) Tryz.func5 (by kernel_rfl)
    (of_decide_eq_true (by kernel_rfl)) (by unfold Func.isWrapper; first | (rw [if_pos (by decide +kernel)]; kernel_rfl) | (rw [if_neg (by decide +kernel)]; exact ⟨rfl, rfl⟩))
    (fun os started H enc _ F => by rw [OpenClaim.pre_eq_preRow]; exact lifted os started H enc F)
theorem plain (f : FuncId) (fn : Func) (hf : Tryz.pinned.checked.prog.funcNamed "loop.example/g01044/laws.FnExactStartAgain" = some f) (hfn : Tryz.pinned.checked.prog.funcs[f]? = some fn) :
    false = Tryz.pinned.checked.prog.looks [] ∧ ∀ (j : Nat) t, fn.params[j]? = some t → Tryz.pinned.checked.prog.wantsStandIn t = false := by
  obtain rfl : f = 5 := Option.some.inj ((show Tryz.prog.funcNamed "loop.example/g01044/laws.FnExactStartAgain" = some 5 by kernel_rfl).symm.trans hf) |>.symm
  obtain rfl : fn = Tryz.f5 := (Option.some.inj (Tryz.func5.symm.trans hfn)).symm
  refine ⟨by kernel_rfl, fun j t ht => ?_⟩
  rw [Tryz.params5] at ht
  have hm : t ∈ [31, 2] := by simpa using Array.mem_of_getElem? ht
  have hall : ([31, 2].all fun u => !Tryz.prog.wantsStandIn u) = true := by kernel_rfl
  exact (show Tryz.prog.wantsStandIn t = false by simpa using List.all_eq_true.1 hall t hm)
theorem card : Rows.FnExactStartAgainCardSaid :=
  Claim7.holds_tied_plain_at .later [] _ _ _ _ said (fun _ h => by cases h) (by kernel_rfl) (fun _ h => by cases h) fnExactStartAgain_row_tie rfl ⟨rfl, rfl⟩ (by kernel_rfl) rfl plain (by kernel_rfl)
#print axioms card
end Go.Proofs.YtkoeeajciciphaaGreatDoor.fnExactStartAgain
namespace Go.Proofs.YtkoeeajciciphaaGreatDoor
theorem fnExactStartAgain_holds : Rows.FnExactStartAgainCardSaid := fnExactStartAgain.card
end Go.Proofs.YtkoeeajciciphaaGreatDoor
