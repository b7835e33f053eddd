import Derived.Test.YtkoeeajciciphaaGreatDoorDefs
import Derived.Test.YtkoeeajciciphaaGreatDoorShelf
import Derived.Lib.LaidTab
import Derived.Lib.AppendIntMem
namespace Go.Proofs.YtkoeeajciciphaaGreatDoor.Base
open Go.RowKit Go.Proofs.YtkoeeajciciphaaGreatDoorW.PrintWords
theorem gPow : Tryz.prog.globalNamed "internal/strconv.uint64pow10" = some 0 := by kernel_rfl
theorem tab_below {w w' : World} (h : Lib.TabIs Tryz.prog w "internal/strconv.uint64pow10" .u64 Lib.pow10Tab) (hb : Below w.heap.size w w') : Lib.TabIs Tryz.prog w' "internal/strconv.uint64pow10" .u64 Lib.pow10Tab := by
  unfold Lib.TabIs World.var? at h ⊢
  rw [gPow] at h ⊢
  simp only [Option.bind_some] at h ⊢
  have hlt : 0 < w.heap.size := by
    rcases Nat.lt_or_ge 0 w.heap.size with h' | h'
    · exact h'
    · rw [Array.getElem?_eq_none h'] at h; cases h
  rw [hb.block 0 hlt]
  exact h
def Tb1 (w : World) : Prop := Lib.TabIs Tryz.prog w "internal/strconv.uint64pow10" .u64 Lib.pow10Tab
theorem Tb1.tab {w : World} (h : Tb1 w) : Lib.TabIs Tryz.prog w "internal/strconv.uint64pow10" .u64 Lib.pow10Tab := h
theorem Tb1.below {w w' : World} (h : Tb1 w) (hb : Below w.heap.size w w') : Tb1 w' := tab_below h hb
def Tb2 (w : World) : Prop := Lib.TabIs Tryz.prog w "internal/strconv.uint64pow10" .u64 Lib.pow10Tab ∧ ∃ m : Int, w.cell? ⟨1, 0, none⟩ = some (.int .i64 m)
theorem Tb2.tab {w : World} (h : Tb2 w) : Lib.TabIs Tryz.prog w "internal/strconv.uint64pow10" .u64 Lib.pow10Tab := h.1
theorem Tb2.max {w : World} (h : Tb2 w) : ∃ m : Int, w.cell? ⟨1, 0, none⟩ = some (.int .i64 m) := h.2
theorem Tb2.below {w w' : World} (h : Tb2 w) (hb : Below w.heap.size w w') : Tb2 w' := ⟨tab_below h.1 hb, h.2.imp fun _ hc => pw_cell_below hb hc⟩
def Tb3 (w : World) : Prop := ∃ m : Int, w.cell? ⟨1, 0, none⟩ = some (.int .i64 m)
theorem Tb3.max {w : World} (h : Tb3 w) : ∃ m : Int, w.cell? ⟨1, 0, none⟩ = some (.int .i64 m) := h
theorem Tb3.below {w w' : World} (h : Tb3 w) (hb : Below w.heap.size w w') : Tb3 w' := h.imp fun _ hc => pw_cell_below hb hc
end Go.Proofs.YtkoeeajciciphaaGreatDoor.Base
