/- The clean machine: which number a block of two source symbols is made with. -/
import Derived.Test.YtkimkgbppegkhaaGreatFnO
import Derived.Test.YtkimkgbppegkhaaGreatFnR
set_option linter.unusedVariables false
set_option linter.unusedSimpArgs false
namespace Go.Proofs.YtkimkgbppegkhaaGreat.Cm
open Go Go.RowKit
set_option maxRecDepth 1000000
noncomputable def zJ(k:Nat):Option (V×T O×Nat):=iJ Tryz.prog nu 100000 45 [vi k] .leaf 0
/-- two whole numbers, the first one given, the second one 0; and not many names -/
noncomputable def Ar(j:Nat)(o:Option (V×T O×Nat)):Bool:=match o with
 |some (.tup [.f (.int .i64 a),.f (.int .i64 b)],_,n)=>c6 a j&&c6 b 0&&Nat.ble n 100000
 |_=>false
theorem i_{k j:Nat}(h:Ar j (zJ k)=true)(H:Heap)(m:Nat)(hH:∀i,m≤i→i<m+100000→H i=none):aS Tryz.prog 45 [vi k] H m (.tup [.f (.int .i64 j),.f (.int .i64 0)]) H (m+100000):=by
 unfold Ar at h
 split at h
 ·rename_i a b H' n he
  rw[Bool.and_eq_true,Bool.and_eq_true,ft,ft,beq_iff_eq,beq_iff_eq]at h
  obtain⟨⟨rfl,rfl⟩,h⟩:=h
  have hn:=Nat.le_of_ble_eq_true h
  have h1:=mn cX oT 100000 45 [vi k] .leaf 0 _ H' n (fun _ _=>rfl) he
  have h2:=(h1.less (G:=fun _=>none) (fun _ _ h=>by cases h) hn).closed H m rfl hH
  have e:(cH (m+·) (· - m) (fun _=>none)).or H=H:=by
   funext i
   have:cH (m+·) (· - m) (fun _=>none) i=none:=by unfold cH; split<;>rfl
   rw[Heap.or_right this]
  rw[e]at h2
  exact h2
 ·cases h
theorem Hk(H:Heap)(m:Nat)(hH:∀i,m≤i→i<m+100000→H i=none):aS Tryz.prog 45 [vi 1] H m (.tup [.f (.int .i64 (0:Nat)),.f (.int .i64 0)]) H (m+100000):=i_ kr H m hH
theorem G7(H:Heap)(m:Nat)(hH:∀i,m≤i→i<m+100000→H i=none):aS Tryz.prog 45 [vi 2] H m (.tup [.f (.int .i64 (0:Nat)),.f (.int .i64 0)]) H (m+100000):=i_ kr H m hH
theorem G4(H:Heap)(m:Nat)(hH:∀i,m≤i→i<m+100000→H i=none):aS Tryz.prog 45 [vi 3] H m (.tup [.f (.int .i64 (0:Nat)),.f (.int .i64 0)]) H (m+100000):=i_ kr H m hH
theorem Hg(H:Heap)(m:Nat)(hH:∀i,m≤i→i<m+100000→H i=none):aS Tryz.prog 45 [vi 4] H m (.tup [.f (.int .i64 (0:Nat)),.f (.int .i64 0)]) H (m+100000):=i_ kr H m hH
theorem Hw(H:Heap)(m:Nat)(hH:∀i,m≤i→i<m+100000→H i=none):aS Tryz.prog 45 [vi 5] H m (.tup [.f (.int .i64 (0:Nat)),.f (.int .i64 0)]) H (m+100000):=i_ kr H m hH
theorem G6(H:Heap)(m:Nat)(hH:∀i,m≤i→i<m+100000→H i=none):aS Tryz.prog 45 [vi 6] H m (.tup [.f (.int .i64 (0:Nat)),.f (.int .i64 0)]) H (m+100000):=i_ kr H m hH
theorem Hj(H:Heap)(m:Nat)(hH:∀i,m≤i→i<m+100000→H i=none):aS Tryz.prog 45 [vi 7] H m (.tup [.f (.int .i64 (0:Nat)),.f (.int .i64 0)]) H (m+100000):=i_ kr H m hH
theorem Hl(H:Heap)(m:Nat)(hH:∀i,m≤i→i<m+100000→H i=none):aS Tryz.prog 45 [vi 8] H m (.tup [.f (.int .i64 (0:Nat)),.f (.int .i64 0)]) H (m+100000):=i_ kr H m hH
end Go.Proofs.YtkimkgbppegkhaaGreat.Cm
