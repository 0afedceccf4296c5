/- The clean machine: 'works' answers true. -/
import Derived.Test.YtkimkgbppegkhaaGreatWb
import Derived.Test.YtkimkgbppegkhaaGreatGb
import Derived.Test.YtkimkgbppegkhaaGreatCl
namespace Go.Proofs.YtkimkgbppegkhaaGreat.Cm
open Go Go.RowKit Go.Proofs.YtkimkgbppegkhaaGreat.Gf
set_option maxRecDepth 1000000
theorem works_ev : chkV (vf (.bool true)) (evCall Tryz.prog orcP 100000 6 [] .leaf 0) = true := by kernel_rfl
theorem works_true (X : Heap) (m : Nat) (ht : Top X m) : PureC 6 [] X m fun v _ => v = vf (.bool true) := by
  have h := works_ev
  unfold chkV at h
  split at h
  · rename_i u H' n' he
    have := beqV_eq h
    subst this
    have h1 := evCall_ok progOk orcP_ok 100000 6 [] .leaf 0 _ H' n' (fun _ _ => rfl) he
    have h2 := h1.closed X m rfl (fun k hk _ => ht k hk)
    refine ⟨_, _, _, h2, fun id o ho => ?_, h2.1.top ht, rfl⟩
    have hid := ht.lt ho
    have : renH (m + ·) (· - m) H'.get id = none := by
      unfold renH
      rw [if_neg]
      show ¬ m + (id - m) = id
      omega
    rw [Heap.or_right this]; exact ho
  · cases h
end Go.Proofs.YtkimkgbppegkhaaGreat.Cm
