import Derived.Test.YtkoeeajciciphaaGreatDoorDoor
import Derived.Test.YtkoeeajciciphaaGreatDoorRows
import Derived.LaidSub
import Derived.MakeChecks
import Derived.Shelf.LaysM
namespace Go.Proofs.YtkoeeajciciphaaGreatDoor.Base
open Go.RowKit Go.Proofs.YtkoeeajciciphaaGreatDoorW.PrintWords
theorem tab_of {W : World} {l : List (String × DataW Unit)} (h : laidMetH Tryz.prog l W) (e : l.filter (fun x => x.1 == "internal/strconv.uint64pow10") = [("internal/strconv.uint64pow10", Rows.laid_internal_strconv_uint64pow10)]) :
    Lib.TabIs Tryz.prog W "internal/strconv.uint64pow10" .u64 Lib.pow10Tab := by
  have h2 := h.filter (fun x => x.1 == "internal/strconv.uint64pow10")
  rw [e, MakeChecks.laidMetH_plain _ _ _ (by kernel_rfl)] at h2
  exact Lib.tabIs_of_head (zs := Lib.pow10Tab) (rest := []) gPow (t := 172) (by kernel_rfl) Tryz.underlying172 Tryz.underlying159 (by kernel_rfl) (by kernel_rfl) h2
theorem max_of {W : World} (h : W.ShapedOpen Tryz.prog) : ∃ m : Int, W.cell? ⟨1, 0, none⟩ = some (.int .i64 m) :=
  Go.Proofs.cell_of_shapedOpen_int (zero := #[.int .i64 0]) (t := 3) h (of_decide_eq_true (by kernel_rfl)) (by kernel_rfl) rfl (by kernel_rfl) (by kernel_rfl) Tryz.underlying3
end Go.Proofs.YtkoeeajciciphaaGreatDoor.Base
