/- The clean machine: 'works' answers true. -/
import Derived.Test.YtkimkgbppegkhaaGreatWb
import Derived.Test.YtkimkgbppegkhaaGreatGb
import Derived.Test.YtkimkgbppegkhaaGreatGh
set_option linter.unusedVariables false
set_option linter.unusedSimpArgs false
namespace Go.Proofs.YtkimkgbppegkhaaGreat.Cm
open Go Go.RowKit Go.Proofs.YtkimkgbppegkhaaGreat.Gf
set_option maxRecDepth 1000000
theorem EH:jt (vf (.bool true)) (iJ Tryz.prog zW 100000 6 [] .leaf 0)=true:=by kernel_rfl
theorem BX(X:Heap)(m:Nat)(ht:ap X m):af 6 [] X m fun v _=>v=vf (.bool true):=by
 have h:=EH
 unfold jt at h
 split at h
 ·rename_i u H' n' he
  have:=mE h
  subst this
  have h1:=mn cX Fo 100000 6 [] .leaf 0 _ H' n' (fun _ _=>rfl) he
  have h2:=h1.closed X m rfl (fun k hk _=>ht k hk)
  refine⟨_,_,_,h2,fun id o ho=>?_,h2.1.top ht,rfl⟩
  have hid:=ht.lt ho
  have:cH (m+·) (· - m) H'.get id=none:=by
   unfold cH
   rw[if_neg]
   show¬m+(id-m)=id
   omega
  rw[Heap.or_right this];exact ho
 ·cases h
end Go.Proofs.YtkimkgbppegkhaaGreat.Cm
