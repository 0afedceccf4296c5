/- The clean machine: the parts of all symbols that are wanted, reckoned. -/
import Derived.Test.YtkimkgbppegkhaaGreatGh
set_option linter.unusedVariables false
set_option linter.unusedSimpArgs false
namespace Go.Proofs.YtkimkgbppegkhaaGreat.Cm
open Go Go.RowKit Go.Proofs.YtkimkgbppegkhaaGreat.Gf
set_option maxRecDepth 1000000
def ia:List Nat:=[0,1,2,3,4,5,6,7,8,9,10,11]
theorem E_:ia.all (gQ 1)=true:=by kernel_rfl
theorem Ei:ia.all (gQ 2)=true:=by kernel_rfl
theorem Ex:ia.all (gQ 3)=true:=by kernel_rfl
theorem ED:ia.all (gQ 4)=true:=by kernel_rfl
theorem EK:ia.all (gQ 5)=true:=by kernel_rfl
theorem EY:ia.all (gQ 6)=true:=by kernel_rfl
theorem Eu:ia.all (gQ 7)=true:=by kernel_rfl
theorem Fk:ia.all (gQ 8)=true:=by kernel_rfl
theorem oL{k esi:Nat}(h1:1≤k)(h8:k≤8)(he:esi<12):gc k esi:=by
 have hm:esi∈ia:=by unfold ia;simp;omega
 have:k=1∨k=2∨k=3∨k=4∨k=5∨k=6∨k=7∨k=8:=by omega
 rcases this with rfl | rfl | rfl | rfl | rfl | rfl | rfl | rfl
 ·exact i6 (List.all_eq_true.1 E_ _ hm)
 ·exact i6 (List.all_eq_true.1 Ei _ hm)
 ·exact i6 (List.all_eq_true.1 Ex _ hm)
 ·exact i6 (List.all_eq_true.1 ED _ hm)
 ·exact i6 (List.all_eq_true.1 EK _ hm)
 ·exact i6 (List.all_eq_true.1 EY _ hm)
 ·exact i6 (List.all_eq_true.1 Eu _ hm)
 ·exact i6 (List.all_eq_true.1 Fk _ hm)
end Go.Proofs.YtkimkgbppegkhaaGreat.Cm
