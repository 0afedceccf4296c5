/- Words for side conditions. -/
import Derived.KernelRfl
set_option linter.unusedVariables false
set_option linter.unusedSimpArgs false
namespace Go.Proofs.YtkimkgbppegkhaaGreat
theorem kr{p:Prop}(h:p:=by kernel_rfl):p:=h
theorem om{p:Prop}(h:p:=by omega):p:=h
theorem sm{p:Prop}(h:p:=by simp):p:=h
end Go.Proofs.YtkimkgbppegkhaaGreat
