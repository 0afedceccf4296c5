/- What is seen of the program's regions, once for all. -/
import Derived.Test.YtkimkgbppegkhaaGreatCmV
import Derived.Test.YtkimkgbppegkhaaGreatProg
namespace Go.Proofs.YtkimkgbppegkhaaGreat.Cm
open Go Go.RowKit
theorem progOk : ProgOk Tryz.prog := ProgOk.of (by kernel_rfl) (by kernel_rfl)
end Go.Proofs.YtkimkgbppegkhaaGreat.Cm
