/- What is seen of the program's regions, once for all. -/
import Derived.Test.YtkimkgbppegkhaaGreatCmV
import Derived.Test.YtkimkgbppegkhaaGreatProg
set_option linter.unusedVariables false
set_option linter.unusedSimpArgs false
namespace Go.Proofs.YtkimkgbppegkhaaGreat.Cm
open Go Go.RowKit
theorem cX:gP Tryz.prog:=gP.of kr kr
end Go.Proofs.YtkimkgbppegkhaaGreat.Cm
