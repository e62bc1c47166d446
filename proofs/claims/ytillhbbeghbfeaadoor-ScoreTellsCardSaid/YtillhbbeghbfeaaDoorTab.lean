/- The table that strconv reads: from the row's list to the contract's fact. -/
import Derived.Test.YtillhbbeghbfeaaDoorRows
import Derived.Test.YtillhbbeghbfeaaDoorShelfS
import Derived.Test.YtillhbbeghbfeaaDoorMea
import Derived.Lib.LaidTab
import Derived.Lib.AppendIntMem
import Derived.LaidMore
import Derived.Stop.LaidErr
import Derived.Stop.Joined
import Derived.SevenTiedAt
namespace Go.Proofs.YtillhbbeghbfeaaDoor
set_option linter.unusedVariables false
open Go.RowKit

/-- The powers of ten are laid. -/
def TabW (w : World) : Prop := Lib.TabIs Tryd.prog w "internal/strconv.uint64pow10" .u64 Lib.pow10Tab
theorem TabW.ext {w w' : World} (h : TabW w) (hE : Ext w w') : TabW w' := Lib.tabBelow_of_tabIs h w' hE
theorem tab_of {W : World} (h : laidMetH Tryd.prog [("math/bits.deBruijn32tab", Rows.laid_math_bits_deBruijn32tab), ("math/bits.deBruijn64tab", Rows.laid_math_bits_deBruijn64tab), ("internal/strconv.uint64pow10", Rows.laid_internal_strconv_uint64pow10)] W) : TabW W := by
  rw [MakeChecks.laidMetH_plain _ _ _ (by kernel_rfl)] at h
  have e : (Rows.laid_internal_strconv_uint64pow10 : DataW Unit) = Lib.tabData .u64 Lib.pow10Tab := by kernel_rfl
  rw [e] at h
  exact Lib.tabIs_of_head (g := 1) (t := 72) (e := 38) (n := 20) (by kernel_rfl) (by kernel_rfl) Tryd.underlying72 Tryd.underlying38 (by kernel_rfl) (by kernel_rfl) h.tail.tail
end Go.Proofs.YtillhbbeghbfeaaDoor
