/-
  No cell of these rows narrows 'for every input' (looked for: loops, veiled, ifaces, maps, wideKeys, modest, calm, conditions, laid).
  DERIVED. THE GIVEN ROWS OF THIS SEAT. 9 by the template 'for every input the law returns true; each argument reads behind the call as it read before'; 0 by the template 'total and deterministic' (their statements: YtnmfndfldhgaeaaTotals.lean).
  GIVEN WITH THE SEED: the statements are not yours to turn. If you find one false, say at which input.
  Laid BY PROGRAM, IN A SANDBOX (cutbox-rows.mjs): the forced cells as the released guide's own fill.sh prints them over the translation 5bf9978500c018ac… (all of the seat's roots in one cut). By AI agents, Wed Nov 11 2026. No macro, syntax, notation, axiom, sorry.
-/
import Derived.Test.YtnmfndfldhgaeaaChecked
import GoSem.Claim
import GoSem.ClaimJoined
import GoSem.ClaimMapViews
import Derived.JoinedTies
import Derived.KernelRfl
namespace Go.Proofs.Ytnmfndfldhgaeaa
/- THE CELL 'sum', in the pinned program and in every row, IS THE sha256 OF THE DUMP (.gsa) THAT YtnmfndfldhgaeaaProg.lean LOADS. Nothing in Lean hashes anything: it is a label: what it is worth is what the hold of that sum in a sandbox is worth. -/
noncomputable def Try.pinned : Pinned := { name := "ytnmfndfldhgaeaa", sum := "5bf9978500c018ac734d58dad0f0b4e2c77d5eccddf5e0471d11173809d224e2", checked := Try.checked }
namespace Rows
def none {H : Type} : Left H := { results := [], args := [] }

/-- 'laws.FnExactMinutesOf': WHATEVER THE INPUT: true; the input reads as it did. -/
def fnExactMinutesOfSpec : ChangeSpec := { name := "fnExactMinutesOf", fn := fun _ => fun
  | [d] => { results := [.lit (.bool true)], args := [d] }
  | _ => none }
def fnExactMinutesOfRow : OpenClaim := { program := "ytnmfndfldhgaeaa", sum := "5bf9978500c018ac734d58dad0f0b4e2c77d5eccddf5e0471d11173809d224e2", func := "loop.example/g01044/laws.FnExactMinutesOf", spec := "fnExactMinutesOf", apart := false }
def FnExactMinutesOfSaid : Prop := fnExactMinutesOfRow.holds Try.pinned (OpenSpec.ofChange fnExactMinutesOfSpec)

/-- ITS FALSE NEIGHBOUR: 'it returns false'. Refute it at one input. -/
def fnExactMinutesOfWrong : ChangeSpec := { name := "fnExactMinutesOf", fn := fun _ => fun
  | [d] => { results := [.lit (.bool false)], args := [d] }
  | _ => none }
def FnExactMinutesOfWrongFalsely : Prop := fnExactMinutesOfRow.holds Try.pinned (OpenSpec.ofChange fnExactMinutesOfWrong)

/-- 'laws.FnExactExtraMinutes': WHATEVER THE INPUT: true; the input reads as it did. -/
def fnExactExtraMinutesSpec : ChangeSpec := { name := "fnExactExtraMinutes", fn := fun _ => fun
  | [d1, d2] => { results := [.lit (.bool true)], args := [d1, d2] }
  | _ => none }
def fnExactExtraMinutesRow : OpenClaim := { program := "ytnmfndfldhgaeaa", sum := "5bf9978500c018ac734d58dad0f0b4e2c77d5eccddf5e0471d11173809d224e2", func := "loop.example/g01044/laws.FnExactExtraMinutes", spec := "fnExactExtraMinutes", apart := false }
def FnExactExtraMinutesSaid : Prop := fnExactExtraMinutesRow.holds Try.pinned (OpenSpec.ofChange fnExactExtraMinutesSpec)

/-- ITS FALSE NEIGHBOUR: 'it returns false'. Refute it at one input. -/
def fnExactExtraMinutesWrong : ChangeSpec := { name := "fnExactExtraMinutes", fn := fun _ => fun
  | [d1, d2] => { results := [.lit (.bool false)], args := [d1, d2] }
  | _ => none }
def FnExactExtraMinutesWrongFalsely : Prop := fnExactExtraMinutesRow.holds Try.pinned (OpenSpec.ofChange fnExactExtraMinutesWrong)

/-- 'laws.FnExactLongestStreak': WHATEVER THE INPUT: true; the input reads as it did. -/
def fnExactLongestStreakSpec : ChangeSpec := { name := "fnExactLongestStreak", fn := fun _ => fun
  | [d] => { results := [.lit (.bool true)], args := [d] }
  | _ => none }
def fnExactLongestStreakRow : OpenClaim := { program := "ytnmfndfldhgaeaa", sum := "5bf9978500c018ac734d58dad0f0b4e2c77d5eccddf5e0471d11173809d224e2", func := "loop.example/g01044/laws.FnExactLongestStreak", spec := "fnExactLongestStreak", apart := false }
def FnExactLongestStreakSaid : Prop := fnExactLongestStreakRow.holds Try.pinned (OpenSpec.ofChange fnExactLongestStreakSpec)

/-- ITS FALSE NEIGHBOUR: 'it returns false'. Refute it at one input. -/
def fnExactLongestStreakWrong : ChangeSpec := { name := "fnExactLongestStreak", fn := fun _ => fun
  | [d] => { results := [.lit (.bool false)], args := [d] }
  | _ => none }
def FnExactLongestStreakWrongFalsely : Prop := fnExactLongestStreakRow.holds Try.pinned (OpenSpec.ofChange fnExactLongestStreakWrong)

/-- 'laws.FnExactPayOf': WHATEVER THE INPUT: true; the input reads as it did. -/
def fnExactPayOfSpec : ChangeSpec := { name := "fnExactPayOf", fn := fun _ => fun
  | [d1, d2, d3] => { results := [.lit (.bool true)], args := [d1, d2, d3] }
  | _ => none }
def fnExactPayOfRow : OpenClaim := { program := "ytnmfndfldhgaeaa", sum := "5bf9978500c018ac734d58dad0f0b4e2c77d5eccddf5e0471d11173809d224e2", func := "loop.example/g01044/laws.FnExactPayOf", spec := "fnExactPayOf", apart := false }
def FnExactPayOfSaid : Prop := fnExactPayOfRow.holds Try.pinned (OpenSpec.ofChange fnExactPayOfSpec)

/-- ITS FALSE NEIGHBOUR: 'it returns false'. Refute it at one input. -/
def fnExactPayOfWrong : ChangeSpec := { name := "fnExactPayOf", fn := fun _ => fun
  | [d1, d2, d3] => { results := [.lit (.bool false)], args := [d1, d2, d3] }
  | _ => none }
def FnExactPayOfWrongFalsely : Prop := fnExactPayOfRow.holds Try.pinned (OpenSpec.ofChange fnExactPayOfWrong)

/-- 'laws.FnExactValidHands': WHATEVER THE INPUT: true; the input reads as it did. -/
def fnExactValidHandsSpec : ChangeSpec := { name := "fnExactValidHands", fn := fun _ => fun
  | [d] => { results := [.lit (.bool true)], args := [d] }
  | _ => none }
def fnExactValidHandsRow : OpenClaim := { program := "ytnmfndfldhgaeaa", sum := "5bf9978500c018ac734d58dad0f0b4e2c77d5eccddf5e0471d11173809d224e2", func := "loop.example/g01044/laws.FnExactValidHands", spec := "fnExactValidHands", unfollowed := true, recurses := true, apart := false }
def FnExactValidHandsSaid : Prop := fnExactValidHandsRow.holds Try.pinned (OpenSpec.ofChange fnExactValidHandsSpec)

/-- ITS FALSE NEIGHBOUR: 'it returns false'. Refute it at one input. -/
def fnExactValidHandsWrong : ChangeSpec := { name := "fnExactValidHands", fn := fun _ => fun
  | [d] => { results := [.lit (.bool false)], args := [d] }
  | _ => none }
def FnExactValidHandsWrongFalsely : Prop := fnExactValidHandsRow.holds Try.pinned (OpenSpec.ofChange fnExactValidHandsWrong)

/-- 'laws.FnExactBusiestDay': WHATEVER THE INPUT: true; the input reads as it did. -/
def fnExactBusiestDaySpec : ChangeSpec := { name := "fnExactBusiestDay", fn := fun _ => fun
  | [d] => { results := [.lit (.bool true)], args := [d] }
  | _ => none }
def fnExactBusiestDayRow : OpenClaim := { program := "ytnmfndfldhgaeaa", sum := "5bf9978500c018ac734d58dad0f0b4e2c77d5eccddf5e0471d11173809d224e2", func := "loop.example/g01044/laws.FnExactBusiestDay", spec := "fnExactBusiestDay", unfollowed := true, recurses := true, apart := false }
def FnExactBusiestDaySaid : Prop := fnExactBusiestDayRow.holds Try.pinned (OpenSpec.ofChange fnExactBusiestDaySpec)

/-- ITS FALSE NEIGHBOUR: 'it returns false'. Refute it at one input. -/
def fnExactBusiestDayWrong : ChangeSpec := { name := "fnExactBusiestDay", fn := fun _ => fun
  | [d] => { results := [.lit (.bool false)], args := [d] }
  | _ => none }
def FnExactBusiestDayWrongFalsely : Prop := fnExactBusiestDayRow.holds Try.pinned (OpenSpec.ofChange fnExactBusiestDayWrong)

/-- 'laws.FnHands': WHATEVER THE INPUT: true; the input reads as it did. -/
def fnHandsSpec : ChangeSpec := { name := "fnHands", fn := fun _ => fun
  | [d1, d2] => { results := [.lit (.bool true)], args := [d1, d2] }
  | _ => none }
def fnHandsRow : OpenClaim := { program := "ytnmfndfldhgaeaa", sum := "5bf9978500c018ac734d58dad0f0b4e2c77d5eccddf5e0471d11173809d224e2", func := "loop.example/g01044/laws.FnHands", spec := "fnHands", unfollowed := true, recurses := true, apart := false }
def FnHandsSaid : Prop := fnHandsRow.holds Try.pinned (OpenSpec.ofChange fnHandsSpec)

/-- ITS FALSE NEIGHBOUR: 'it returns false'. Refute it at one input. -/
def fnHandsWrong : ChangeSpec := { name := "fnHands", fn := fun _ => fun
  | [d1, d2] => { results := [.lit (.bool false)], args := [d1, d2] }
  | _ => none }
def FnHandsWrongFalsely : Prop := fnHandsRow.holds Try.pinned (OpenSpec.ofChange fnHandsWrong)

/-- 'laws.FnExactCheapestHands': WHATEVER THE INPUT: true; the input reads as it did. -/
def fnExactCheapestHandsSpec : ChangeSpec := { name := "fnExactCheapestHands", fn := fun _ => fun
  | [d1, d2] => { results := [.lit (.bool true)], args := [d1, d2] }
  | _ => none }
def fnExactCheapestHandsRow : OpenClaim := { program := "ytnmfndfldhgaeaa", sum := "5bf9978500c018ac734d58dad0f0b4e2c77d5eccddf5e0471d11173809d224e2", func := "loop.example/g01044/laws.FnExactCheapestHands", spec := "fnExactCheapestHands", unfollowed := true, recurses := true, apart := false }
def FnExactCheapestHandsSaid : Prop := fnExactCheapestHandsRow.holds Try.pinned (OpenSpec.ofChange fnExactCheapestHandsSpec)

/-- ITS FALSE NEIGHBOUR: 'it returns false'. Refute it at one input. -/
def fnExactCheapestHandsWrong : ChangeSpec := { name := "fnExactCheapestHands", fn := fun _ => fun
  | [d1, d2] => { results := [.lit (.bool false)], args := [d1, d2] }
  | _ => none }
def FnExactCheapestHandsWrongFalsely : Prop := fnExactCheapestHandsRow.holds Try.pinned (OpenSpec.ofChange fnExactCheapestHandsWrong)

/-- 'laws.FnExactShareByHours': WHATEVER THE INPUT: true; the input reads as it did. -/
def fnExactShareByHoursSpec : ChangeSpec := { name := "fnExactShareByHours", fn := fun _ => fun
  | [d1, d2] => { results := [.lit (.bool true)], args := [d1, d2] }
  | _ => none }
def fnExactShareByHoursRow : OpenClaim := { program := "ytnmfndfldhgaeaa", sum := "5bf9978500c018ac734d58dad0f0b4e2c77d5eccddf5e0471d11173809d224e2", func := "loop.example/g01044/laws.FnExactShareByHours", spec := "fnExactShareByHours", unfollowed := true, recurses := true, apart := false }
def FnExactShareByHoursSaid : Prop := fnExactShareByHoursRow.holds Try.pinned (OpenSpec.ofChange fnExactShareByHoursSpec)

/-- ITS FALSE NEIGHBOUR: 'it returns false'. Refute it at one input. -/
def fnExactShareByHoursWrong : ChangeSpec := { name := "fnExactShareByHours", fn := fun _ => fun
  | [d1, d2] => { results := [.lit (.bool false)], args := [d1, d2] }
  | _ => none }
def FnExactShareByHoursWrongFalsely : Prop := fnExactShareByHoursRow.holds Try.pinned (OpenSpec.ofChange fnExactShareByHoursWrong)

/- THE SECOND FORM. 'bulk': how many values and letters a reading holds, each counted each time it is reached (what is shared counts as often as it is met; a slice's spare places count too). A statement '..UptoSaid' is the law's where the arguments, and the package variables that the reading takes, are together of bulk at most 1048576: NARROWER than '..Said'. Prove '..Said' where nothing that the law and all that it calls make is longer than what came in: it says more and counts as full. Else prove '..UptoSaid'. A law counts once. -/
mutual
def uptoBulk {H : Type} : DataW H → Nat
  | .lit (.string bytes) => bytes.length + 1
  | .lit _ => 1
  | .nil => 1
  | .ptr d => uptoBulk d + 1
  | .slice elems spare => uptoBulkAll elems + uptoBulkAll spare + 1
  | .agg parts => uptoBulkAll parts + 1
  | .iface _ d => uptoBulk d + 1
  | .map entries => uptoBulkEntries entries + 1
  | .held _ => 1
def uptoBulkAll {H : Type} : List (DataW H) → Nat
  | [] => 0
  | d :: r => uptoBulk d + uptoBulkAll r
def uptoBulkEntries {H : Type} : List (Lit × DataW H) → Nat
  | [] => 0
  | x :: r => uptoBulkEntry x + uptoBulkEntries r
def uptoBulkEntry {H : Type} : Lit × DataW H → Nat
  | (.string bytes, d) => bytes.length + uptoBulk d + 1
  | (_, d) => uptoBulk d + 1
 end
def uptoSmall : (H : Type) → List (DataW H) → Bool := fun _ ds => decide (uptoBulkAll ds ≤ 1048576)
def OpenSpec.upto (s : _root_.Go.ChangeSpec) : _root_.Go.OpenSpec := { _root_.Go.OpenSpec.ofChange s with cond := some uptoSmall }

/-- 'laws.FnExactMinutesOf', WHERE WHAT IT READS IS OF BULK AT MOST 1048576: true; the input reads as it did. -/
def fnExactMinutesOfUptoRow : OpenClaim := { program := "ytnmfndfldhgaeaa", sum := "5bf9978500c018ac734d58dad0f0b4e2c77d5eccddf5e0471d11173809d224e2", func := "loop.example/g01044/laws.FnExactMinutesOf", spec := "fnExactMinutesOf", apart := false, narrowed := true }
def FnExactMinutesOfUptoSaid : Prop := fnExactMinutesOfUptoRow.holds Try.pinned (OpenSpec.upto fnExactMinutesOfSpec)

/-- 'laws.FnExactExtraMinutes', WHERE WHAT IT READS IS OF BULK AT MOST 1048576: true; the input reads as it did. -/
def fnExactExtraMinutesUptoRow : OpenClaim := { program := "ytnmfndfldhgaeaa", sum := "5bf9978500c018ac734d58dad0f0b4e2c77d5eccddf5e0471d11173809d224e2", func := "loop.example/g01044/laws.FnExactExtraMinutes", spec := "fnExactExtraMinutes", apart := false, narrowed := true }
def FnExactExtraMinutesUptoSaid : Prop := fnExactExtraMinutesUptoRow.holds Try.pinned (OpenSpec.upto fnExactExtraMinutesSpec)

/-- 'laws.FnExactLongestStreak', WHERE WHAT IT READS IS OF BULK AT MOST 1048576: true; the input reads as it did. -/
def fnExactLongestStreakUptoRow : OpenClaim := { program := "ytnmfndfldhgaeaa", sum := "5bf9978500c018ac734d58dad0f0b4e2c77d5eccddf5e0471d11173809d224e2", func := "loop.example/g01044/laws.FnExactLongestStreak", spec := "fnExactLongestStreak", apart := false, narrowed := true }
def FnExactLongestStreakUptoSaid : Prop := fnExactLongestStreakUptoRow.holds Try.pinned (OpenSpec.upto fnExactLongestStreakSpec)

/-- 'laws.FnExactPayOf', WHERE WHAT IT READS IS OF BULK AT MOST 1048576: true; the input reads as it did. -/
def fnExactPayOfUptoRow : OpenClaim := { program := "ytnmfndfldhgaeaa", sum := "5bf9978500c018ac734d58dad0f0b4e2c77d5eccddf5e0471d11173809d224e2", func := "loop.example/g01044/laws.FnExactPayOf", spec := "fnExactPayOf", apart := false, narrowed := true }
def FnExactPayOfUptoSaid : Prop := fnExactPayOfUptoRow.holds Try.pinned (OpenSpec.upto fnExactPayOfSpec)

/-- 'laws.FnExactValidHands', WHERE WHAT IT READS IS OF BULK AT MOST 1048576: true; the input reads as it did. -/
def fnExactValidHandsUptoRow : OpenClaim := { program := "ytnmfndfldhgaeaa", sum := "5bf9978500c018ac734d58dad0f0b4e2c77d5eccddf5e0471d11173809d224e2", func := "loop.example/g01044/laws.FnExactValidHands", spec := "fnExactValidHands", unfollowed := true, recurses := true, apart := false, narrowed := true }
def FnExactValidHandsUptoSaid : Prop := fnExactValidHandsUptoRow.holds Try.pinned (OpenSpec.upto fnExactValidHandsSpec)

/-- 'laws.FnExactBusiestDay', WHERE WHAT IT READS IS OF BULK AT MOST 1048576: true; the input reads as it did. -/
def fnExactBusiestDayUptoRow : OpenClaim := { program := "ytnmfndfldhgaeaa", sum := "5bf9978500c018ac734d58dad0f0b4e2c77d5eccddf5e0471d11173809d224e2", func := "loop.example/g01044/laws.FnExactBusiestDay", spec := "fnExactBusiestDay", unfollowed := true, recurses := true, apart := false, narrowed := true }
def FnExactBusiestDayUptoSaid : Prop := fnExactBusiestDayUptoRow.holds Try.pinned (OpenSpec.upto fnExactBusiestDaySpec)

/-- 'laws.FnHands', WHERE WHAT IT READS IS OF BULK AT MOST 1048576: true; the input reads as it did. -/
def fnHandsUptoRow : OpenClaim := { program := "ytnmfndfldhgaeaa", sum := "5bf9978500c018ac734d58dad0f0b4e2c77d5eccddf5e0471d11173809d224e2", func := "loop.example/g01044/laws.FnHands", spec := "fnHands", unfollowed := true, recurses := true, apart := false, narrowed := true }
def FnHandsUptoSaid : Prop := fnHandsUptoRow.holds Try.pinned (OpenSpec.upto fnHandsSpec)

/-- 'laws.FnExactCheapestHands', WHERE WHAT IT READS IS OF BULK AT MOST 1048576: true; the input reads as it did. -/
def fnExactCheapestHandsUptoRow : OpenClaim := { program := "ytnmfndfldhgaeaa", sum := "5bf9978500c018ac734d58dad0f0b4e2c77d5eccddf5e0471d11173809d224e2", func := "loop.example/g01044/laws.FnExactCheapestHands", spec := "fnExactCheapestHands", unfollowed := true, recurses := true, apart := false, narrowed := true }
def FnExactCheapestHandsUptoSaid : Prop := fnExactCheapestHandsUptoRow.holds Try.pinned (OpenSpec.upto fnExactCheapestHandsSpec)

/-- 'laws.FnExactShareByHours', WHERE WHAT IT READS IS OF BULK AT MOST 1048576: true; the input reads as it did. -/
def fnExactShareByHoursUptoRow : OpenClaim := { program := "ytnmfndfldhgaeaa", sum := "5bf9978500c018ac734d58dad0f0b4e2c77d5eccddf5e0471d11173809d224e2", func := "loop.example/g01044/laws.FnExactShareByHours", spec := "fnExactShareByHours", unfollowed := true, recurses := true, apart := false, narrowed := true }
def FnExactShareByHoursUptoSaid : Prop := fnExactShareByHoursUptoRow.holds Try.pinned (OpenSpec.upto fnExactShareByHoursSpec)

end Rows
end Go.Proofs.Ytnmfndfldhgaeaa
