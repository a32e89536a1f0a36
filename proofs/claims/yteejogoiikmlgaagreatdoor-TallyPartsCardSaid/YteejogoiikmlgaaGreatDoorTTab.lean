/-
  The table of powers of ten, out of what the rows list.
-/
import Derived.Test.YteejogoiikmlgaaGreatDoorTLaid
import Derived.Test.YteejogoiikmlgaaGreatDoorTFmt
namespace Go.Proofs.YteejogoiikmlgaaGreatDoor
open Go.RowKit
set_option maxRecDepth 100000
theorem pow_eq {H : Type} : (Rows.laid_internal_strconv_uint64pow10 : DataW H) = Lib.tabData .u64 Lib.pow10Tab := rfl
theorem tab_of_laid {W : World} (h : laidMetH Tryz.prog laidList W) : Serv.Tab W := by
  rw [MakeChecks.laidMetH_plain _ _ _ (by kernel_rfl)] at h
  have h3 := Lib.laidMet.reads h (n := "internal/strconv.uint64pow10") (d := Rows.laid_internal_strconv_uint64pow10) (by simp)
  rw [pow_eq] at h3
  obtain ⟨g, t, cs, fuel, p, hg, hty, hvar, hd⟩ := h3
  obtain rfl := Option.some.inj ((show Tryz.prog.globalNamed "internal/strconv.uint64pow10" = some 0 by kernel_rfl).symm.trans hg)
  obtain rfl := Option.some.inj ((show (Tryz.prog.globals[0]?).map (·.type) = some 219 by kernel_rfl).symm.trans hty)
  have hcs := Lib.cells_of_tab (n := 20) Tryz.underlying219 (show Tryz.prog.underlying 62 = some (.int .u64) by kernel_rfl) (by kernel_rfl) (by kernel_rfl) hd
  unfold Serv.Tab Lib.TabIs
  rw [hvar, ← hcs]
end Go.Proofs.YteejogoiikmlgaaGreatDoor
