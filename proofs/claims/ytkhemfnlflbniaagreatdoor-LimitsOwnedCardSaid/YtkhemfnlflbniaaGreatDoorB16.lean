/- Merged text 16 of the base: the tie of the listed variables to the program's text. No conditions. -/
import Derived.Test.YtkhemfnlflbniaaGreatDoorCards
import Derived.LaidByTextLater
import Derived.SevenTiedAt
import Derived.LaidOnce
import Derived.KernelRfl
set_option maxRecDepth 100000
namespace Go.Proofs.YtkhemfnlflbniaaGreatDoor
open Go
theorem BF : Tryz.prog.laidByTextLater [("math/bits.deBruijn32tab", Rows.laid_math_bits_deBruijn32tab), ("math/bits.deBruijn64tab", Rows.laid_math_bits_deBruijn64tab), ("internal/strconv.uint64pow10", Rows.laid_internal_strconv_uint64pow10)] [.data, .data, .data] true :=
 Program.laidByTextLater_by_one 24 8 65 (by kernel_rfl) (by kernel_rfl) (by kernel_rfl) (by kernel_rfl) (by kernel_rfl) (by kernel_rfl) (fun _ _=>by kernel_rfl)
end Go.Proofs.YtkhemfnlflbniaaGreatDoor
