/- The library's table of powers stands as the rows list it. -/
import Derived.Test.YtlhmpmmblnbmbaaDoorRep
import Derived.Test.YtlhmpmmblnbmbaaDoorRows
import Derived.LaidMore
import Derived.Stop.LaidErr
import Derived.MakeChecks
namespace Go.Proofs.YtlhmpmmblnbmbaaDoor.Rep
open Go.Lib
theorem pow_g : Tryd.prog.globalNamed "internal/strconv.uint64pow10" = some 1 := by kernel_rfl
theorem pow_t : (Tryd.prog.globals[1]?).map (·.type) = some 138 := by kernel_rfl
theorem pow_e : Tryd.prog.cellsOf 110 = 1 := by kernel_rfl
theorem pow_c : Tryd.prog.cellsOf 138 = 20 := by kernel_rfl
theorem pow_d : (Rows.laid_internal_strconv_uint64pow10 : DataW Unit) = tabData .u64 pow10Tab := rfl
theorem pow_of {W : World} (h : laidMetH Tryd.prog [("math/bits.deBruijn32tab", Rows.laid_math_bits_deBruijn32tab), ("math/bits.deBruijn64tab", Rows.laid_math_bits_deBruijn64tab), ("internal/strconv.uint64pow10", Rows.laid_internal_strconv_uint64pow10)] W) : POW W := by
  rw [MakeChecks.laidMetH_plain _ _ _ (by kernel_rfl)] at h
  have h2 := laidMet.tail (laidMet.tail h)
  rw [pow_d] at h2
  exact tabIs_of_head pow_g pow_t Tryd.underlying138 Tryd.underlying110 pow_e pow_c h2
end Go.Proofs.YtlhmpmmblnbmbaaDoor.Rep
