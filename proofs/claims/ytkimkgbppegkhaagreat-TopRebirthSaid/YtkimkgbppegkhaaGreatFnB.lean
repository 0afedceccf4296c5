/- The clean machine's walks of the elements' functions: rows of products and sums, powers, inverses. -/
import Derived.Test.YtkimkgbppegkhaaGreatFnA
import Derived.Test.YtkimkgbppegkhaaGreatCmY
namespace Go.Proofs.YtkimkgbppegkhaaGreat.Cm
open Go Go.RowKit Go.Proofs.YtkimkgbppegkhaaGreat.Gf
/-- a row of elements, as it lies in cells -/
def bs (l : List Nat) : List F := l.map fun (x : Nat) => F.int .u8 (x : Int)
theorem bs_at {l : List Nat} {i : Nat} {x : Nat} (h : l[i]? = some x) : (bs l)[i]? = some (.int .u8 (x : Int)) := by simp [bs, h]
theorem bs_len (l : List Nat) : (bs l).length = l.length := by simp [bs]
def B8 (l : List Nat) : Prop := ∀ x ∈ l, x < 256
theorem wrap64 {z : Nat} {x : Int} (h : x = z) (hz : z < 9223372036854775808) : IntKind.i64.wrap x = (z : Int) := by
  subst h
  exact wrap_id (by omega) (by show (z : Int) ≤ 9223372036854775807; omega)
def prodN (out : Nat) : List Nat → Nat
  | [] => out
  | x :: l => prodN (gm out x) l
def sumN (out : Nat) : List Nat → Nat
  | [] => out
  | x :: l => sumN (out ^^^ x) l
/-- a cell, as a heap has it -/
def atA (H : Heap) (id o : Nat) (x : F) : Prop := (∃ cs ex, H id = some (.cells cs ex) ∧ cs[o]? = some x) ∨ ∃ rcs elem fz k m, H id = some (.whole rcs elem fz) ∧ rcs[o]? = some (Value.int k m) ∧ x = .int k m
theorem atA.mono {H H' : Heap} {id o : Nat} {x : F} (h : atA H id o x) (hm : ∀ ob, H id = some ob → H' id = some ob) : atA H' id o x := by
  rcases h with ⟨cs, ex, h1, h2⟩ | ⟨rcs, elem, fz, k, m, h1, h2, h3⟩
  · exact .inl ⟨cs, ex, hm _ h1, h2⟩
  · exact .inr ⟨rcs, elem, fz, k, m, hm _ h1, h2, h3⟩
theorem atA.some {H : Heap} {id o : Nat} {x : F} (h : atA H id o x) : ∃ ob, H id = some ob := by
  rcases h with ⟨cs, ex, h1, h2⟩ | ⟨rcs, elem, fz, k, m, h1, h2, h3⟩
  · exact ⟨_, h1⟩
  · exact ⟨_, h1⟩
theorem jLoadX {P : Program} {o : Oper} {r : Operand → Option V} {H : Heap} {n id off : Nat} {x : F} (h : atA H id off x) (hk : ldK P o r = some (id, off)) : OpJ P o r H n (vf x) H n := by
  rcases h with ⟨cs, ex, h1, h2⟩ | ⟨rcs, elem, fz, k, m, hh, hx, rfl⟩
  · exact jLoad h1 h2 hk
  · unfold ldK at hk
    split at hk
    · rename_i t a ho
      split at hk
      · rename_i id' off' ha
        split at hk
        · rename_i s h1 h2
          cases hk
          exact .prim (vf (.int k m), [], 0) (by simp only [ho, stepOp, ha, hh, h1, h2, hx])
        · cases hk
      · cases hk
    · cases hk
theorem ints_at : ∀ {vs : List Value} {l : List F}, intsA vs = some l → l.length = vs.length ∧ ∀ (i : Nat) x, l[i]? = some x → ∃ k m, vs[i]? = some (Value.int k m) ∧ x = .int k m
  | [], l, h => by simp only [intsA] at h; cases h; exact ⟨rfl, fun i x hx => by simp at hx⟩
  | v :: vs, l, h => by
    unfold intsA at h
    split at h
    · rename_i heq; cases heq
    · rename_i k m r heq
      cases heq
      split at h
      · rename_i l' hl
        cases h
        obtain ⟨g1, g2⟩ := ints_at hl
        refine ⟨by simp [g1], fun i x hx => ?_⟩
        cases i with
        | zero => simp at hx; exact ⟨k, m, by simp, hx.symm⟩
        | succ i => simpa using g2 i x (by simpa using hx)
      · cases h
    · cases h
/-- a slice's cells, as a heap has them -/
theorem rowA_at {H : Heap} {sz id off sz' len : Nat} {cap : Option Nat} {cs : List F} (h : rowA H sz (.sl id off sz' len cap) = some cs) : sz' = sz ∧ cs.length = len * sz ∧ (∃ ob, H id = some ob) ∧ ∀ (i : Nat) x, cs[i]? = some x → atA H id (off + i) x := by
  simp only [rowA] at h
  split at h
  · rename_i h1
    split at h
    · rename_i all ex h2
      split at h
      · rename_i h3
        cases h
        refine ⟨h1, by simp; omega, ⟨_, h2⟩, fun i x hx => .inl ⟨all, ex, h2, ?_⟩⟩
        rw [List.getElem?_take] at hx
        split at hx
        · rwa [List.getElem?_drop] at hx
        · cases hx
      · cases h
    · rename_i rcs elem fz h2
      split at h
      · rename_i h3
        obtain ⟨g1, g2⟩ := ints_at h
        refine ⟨h1, by rw [g1]; simp; omega, ⟨_, h2⟩, fun i x hx => ?_⟩
        obtain ⟨k, m, g3, g4⟩ := g2 i x hx
        refine .inr ⟨rcs, elem, fz, k, m, h2, ?_, g4⟩
        rw [List.getElem?_take] at g3
        split at g3
        · rw [List.getElem?_drop] at g3
          simpa using g3
        · cases g3
      · cases h
    · cases h
  · cases h
theorem pos_i {i : Nat} : vi i = vf (.int .i64 (i : Int)) := rfl

theorem mul_loop {H : Heap} {n id off len : Nat} {cap : Option Nat} (l : List Nat) (hl : len = l.length) (hrow : ∀ (i : Nat) (x : Nat), l[i]? = some x → atA H id (off + i) (.int .u8 (x : Int))) (hb : B8 l) (hlt : len < 9223372036854775808) :
    ∀ (k i : Nat) (out : Nat) (K : Ko), k + i = len → out < 256 → (∀ A, A 3 = some (vb (prodN out (l.drop i))) → K (.exit 0) A H n) →
    ToL Tryz.prog 198 [0, 0, 1, 0, 1, 1] (tl [(3, vb out), (6, vf (.sl id off 1 len cap)), (7, vi len), (8, vi i)]) H n K := by
  intro k
  induction k with
  | zero =>
    intro i out K hk ho hK
    refine ToL.round ?_
    refine To.seq (by kernel_rfl) ?_
    refine To.region (by kernel_rfl) ?_
    refine Sg.go 1 (by kernel_rfl) ?_
    refine Sg.done (by kernel_rfl) ?_
    show To Tryz.prog 198 [1, 0, 0, 1, 0, 1, 1] _ _ _ _
    refine To.seq (by kernel_rfl) ?_
    refine To.ifB (ltI (i : Int) (len : Int)) (by kernel_rfl) (by kernel_rfl) (fun h0 => ?_) (fun h0 => ?_)
    · skip
      exact absurd (ltI_true h0) (by omega)
    · skip
      refine To.exit 0 (by kernel_rfl) ?_
      exact hK _ (by rw [List.drop_of_length_le (by omega)]; kernel_rfl)
  | succ k ih =>
    intro i out K hk ho hK
    have hi : i < l.length := by omega
    have hx : l[i]? = some l[i] := List.getElem?_eq_getElem hi
    have hx8 : l[i] < 256 := hb _ (List.getElem_mem hi)
    have hd : l.drop i = l[i] :: l.drop (i + 1) := List.drop_eq_getElem_cons hi
    refine ToL.round ?_
    refine To.seq (by kernel_rfl) ?_
    refine To.region (by kernel_rfl) ?_
    refine Sg.go 1 (by kernel_rfl) ?_
    refine Sg.done (by kernel_rfl) ?_
    show To Tryz.prog 198 [1, 0, 0, 1, 0, 1, 1] _ _ _ _
    refine To.seq (by kernel_rfl) ?_
    refine To.ifB (ltI (i : Int) (len : Int)) (by kernel_rfl) (by kernel_rfl) (fun h0 => ?_) (fun h0 => ?_)
    · skip
      refine To.skip (by kernel_rfl) ?_
      show To Tryz.prog 198 [1, 1, 0, 0, 1, 0, 1, 1] _ _ _ _
      refine To.seq (by kernel_rfl) ?_
      refine To.block 1 (by kernel_rfl) ?_
      refine To.seq (by kernel_rfl) ?_
      refine To.region (by kernel_rfl) ?_
      refine Sg.op (some 10) (by kernel_rfl) (jIdx (id := id) (off := off) (sz := 1) (len := len) (k := i) (by omega) (by kernel_rfl)) ?_
      refine Sg.op (some 11) (by kernel_rfl) (jLoadX (off := off + i * 1) (by rw [Nat.mul_one]; exact hrow i _ hx) (by kernel_rfl)) ?_
      refine Sg.go 1 (by kernel_rfl) ?_
      refine Sg.done (by kernel_rfl) ?_
      show To Tryz.prog 198 [1, 0, 0, 1, 1, 0, 0, 1, 0, 1, 1] _ _ _ _
      refine To.region (by kernel_rfl) ?_
      refine Sg.go 2 (by kernel_rfl) ?_
      refine Sg.op (some 14) (by kernel_rfl) (jCall (by kernel_rfl) (times_any out l[i] ho hx8 H n) (by kernel_rfl)) ?_
      refine Sg.go 1 (by kernel_rfl) ?_
      refine Sg.done (by kernel_rfl) ?_
      show To Tryz.prog 198 [1, 1, 1, 0, 0, 1, 0, 1, 1] _ _ _ _
      refine To.region (by kernel_rfl) ?_
      refine Sg.op (some 15) (by kernel_rfl) (jBin (b_add .i64 i 1 ((i + 1 : Nat) : Int) (wrap64 (by omega) (by omega))) (by kernel_rfl)) ?_
      refine Sg.go 1 (by kernel_rfl) ?_
      refine Sg.done (by kernel_rfl) ?_
      refine ToL.only [3, 6, 7, 8] [(3, vb (gm out l[i])), (6, vf (.sl id off 1 len cap)), (7, vi len), (8, vi (i + 1))] (by kernel_rfl) ?_
      exact ih _ _ _ (by omega) (gm_lt ho) (fun A hA => hK A (by rw [hA, hd]; rfl))
    · skip
      exact absurd (ltI_false h0) (by omega)
theorem add_loop {H : Heap} {n id off len : Nat} {cap : Option Nat} (l : List Nat) (hl : len = l.length) (hrow : ∀ (i : Nat) (x : Nat), l[i]? = some x → atA H id (off + i) (.int .u8 (x : Int))) (hb : B8 l) (hlt : len < 9223372036854775808) :
    ∀ (k i : Nat) (out : Nat) (K : Ko), k + i = len → out < 256 → (∀ A, A 3 = some (vb (sumN out (l.drop i))) → K (.exit 0) A H n) →
    ToL Tryz.prog 92 [0, 0, 1, 0, 1, 1] (tl [(3, vb out), (6, vf (.sl id off 1 len cap)), (7, vi len), (8, vi i)]) H n K := by
  intro k
  induction k with
  | zero =>
    intro i out K hk ho hK
    refine ToL.round ?_
    refine To.seq (by kernel_rfl) ?_
    refine To.region (by kernel_rfl) ?_
    refine Sg.go 1 (by kernel_rfl) ?_
    refine Sg.done (by kernel_rfl) ?_
    show To Tryz.prog 92 [1, 0, 0, 1, 0, 1, 1] _ _ _ _
    refine To.seq (by kernel_rfl) ?_
    refine To.ifB (ltI (i : Int) (len : Int)) (by kernel_rfl) (by kernel_rfl) (fun h0 => ?_) (fun h0 => ?_)
    · skip
      exact absurd (ltI_true h0) (by omega)
    · skip
      refine To.exit 0 (by kernel_rfl) ?_
      exact hK _ (by rw [List.drop_of_length_le (by omega)]; kernel_rfl)
  | succ k ih =>
    intro i out K hk ho hK
    have hi : i < l.length := by omega
    have hx : l[i]? = some l[i] := List.getElem?_eq_getElem hi
    have hx8 : l[i] < 256 := hb _ (List.getElem_mem hi)
    have hd : l.drop i = l[i] :: l.drop (i + 1) := List.drop_eq_getElem_cons hi
    refine ToL.round ?_
    refine To.seq (by kernel_rfl) ?_
    refine To.region (by kernel_rfl) ?_
    refine Sg.go 1 (by kernel_rfl) ?_
    refine Sg.done (by kernel_rfl) ?_
    show To Tryz.prog 92 [1, 0, 0, 1, 0, 1, 1] _ _ _ _
    refine To.seq (by kernel_rfl) ?_
    refine To.ifB (ltI (i : Int) (len : Int)) (by kernel_rfl) (by kernel_rfl) (fun h0 => ?_) (fun h0 => ?_)
    · skip
      refine To.skip (by kernel_rfl) ?_
      show To Tryz.prog 92 [1, 1, 0, 0, 1, 0, 1, 1] _ _ _ _
      refine To.seq (by kernel_rfl) ?_
      refine To.block 1 (by kernel_rfl) ?_
      refine To.seq (by kernel_rfl) ?_
      refine To.region (by kernel_rfl) ?_
      refine Sg.op (some 10) (by kernel_rfl) (jIdx (id := id) (off := off) (sz := 1) (len := len) (k := i) (by omega) (by kernel_rfl)) ?_
      refine Sg.op (some 11) (by kernel_rfl) (jLoadX (off := off + i * 1) (by rw [Nat.mul_one]; exact hrow i _ hx) (by kernel_rfl)) ?_
      refine Sg.go 1 (by kernel_rfl) ?_
      refine Sg.done (by kernel_rfl) ?_
      show To Tryz.prog 92 [1, 0, 0, 1, 1, 0, 0, 1, 0, 1, 1] _ _ _ _
      refine To.region (by kernel_rfl) ?_
      refine Sg.go 2 (by kernel_rfl) ?_
      refine Sg.op (some 14) (by kernel_rfl) (jBin (b_xor .u8 out l[i] (show out ≤ 255 by omega) (show l[i] ≤ 255 by omega) (xor255 ho hx8)) (by kernel_rfl)) ?_
      refine Sg.go 1 (by kernel_rfl) ?_
      refine Sg.done (by kernel_rfl) ?_
      show To Tryz.prog 92 [1, 1, 1, 0, 0, 1, 0, 1, 1] _ _ _ _
      refine To.region (by kernel_rfl) ?_
      refine Sg.op (some 15) (by kernel_rfl) (jBin (b_add .i64 i 1 ((i + 1 : Nat) : Int) (wrap64 (by omega) (by omega))) (by kernel_rfl)) ?_
      refine Sg.go 1 (by kernel_rfl) ?_
      refine Sg.done (by kernel_rfl) ?_
      refine ToL.only [3, 6, 7, 8] [(3, vb (out ^^^ l[i])), (6, vf (.sl id off 1 len cap)), (7, vi len), (8, vi (i + 1))] (by kernel_rfl) ?_
      exact ih _ _ _ (by omega) (xor_lt ho hx8) (fun A hA => hK A (by rw [hA, hd]; rfl))
    · skip
      exact absurd (ltI_false h0) (by omega)
theorem mul_any {H : Heap} (n : Nat) {id off len : Nat} {cap : Option Nat} (l : List Nat) (hr : rowA H 1 (.sl id off 1 len cap) = some (bs l)) (hb : B8 l) (hlt : l.length < 9223372036854775808) : CallsC Tryz.prog 198 [vf (.sl id off 1 len cap)] H n (vb (prodN 1 l)) H n := by
  have h : ∃ v H' n', CallsC Tryz.prog 198 [vf (.sl id off 1 len cap)] H n v H' n' ∧ (v = vb (prodN 1 l) ∧ H' = H ∧ n' = n) := by
    refine CallsC.of_to (by kernel_rfl) ?_
    obtain ⟨_, hlen, _, hat⟩ := rowA_at hr
    have hl : len = l.length := by
      rw [bs_len] at hlen
      omega
    have hrow : ∀ (i : Nat) (x : Nat), l[i]? = some x → atA H id (off + i) (.int .u8 (x : Int)) := fun i x hx => hat i _ (bs_at hx)
    refine To.seq (by kernel_rfl) ?_
    refine To.region (by kernel_rfl) ?_
    refine Sg.go 1 (by kernel_rfl) ?_
    refine Sg.done (by kernel_rfl) ?_
    show To Tryz.prog 198 [1] _ _ _ _
    refine To.seq (by kernel_rfl) ?_
    refine To.region (by kernel_rfl) ?_
    refine Sg.go 1 (by kernel_rfl) ?_
    refine Sg.done (by kernel_rfl) ?_
    show To Tryz.prog 198 [1, 1] _ _ _ _
    refine To.seq (by kernel_rfl) ?_
    refine To.seq (by kernel_rfl) ?_
    refine To.region (by kernel_rfl) ?_
    refine Sg.go 1 (by kernel_rfl) ?_
    refine Sg.op (some 7) (by kernel_rfl) (jLen (l := len) (by kernel_rfl)) ?_
    refine Sg.go 1 (by kernel_rfl) ?_
    refine Sg.done (by kernel_rfl) ?_
    show To Tryz.prog 198 [1, 0, 1, 1] _ _ _ _
    refine To.block 0 (by kernel_rfl) ?_
    refine To.loop (by kernel_rfl) ?_
    refine ToL.only [3, 6, 7, 8] [(3, vb 1), (6, vf (.sl id off 1 len cap)), (7, vi len), (8, vi 0)] (by kernel_rfl) ?_
    refine mul_loop l hl hrow hb (by omega) len 0 1 _ (by omega) (by omega) (fun A hA => ?_)
    show To Tryz.prog 198 [1, 1, 1] _ _ _ _
    refine To.only [3] [(3, vb (prodN 1 l))] (by simp only [getsL, hA, List.drop_zero]) ?_
    refine To.seq (by kernel_rfl) ?_
    refine To.region (by kernel_rfl) ?_
    refine Sg.go 2 (by kernel_rfl) ?_
    refine Sg.done (by kernel_rfl) ?_
    show To Tryz.prog 198 [1, 1, 1, 1] _ _ _ _
    refine To.ret (by kernel_rfl) ?_
    exact ⟨.inr rfl, _, by kernel_rfl, rfl, rfl, rfl⟩
  obtain ⟨v, H', n', h1, rfl, rfl, rfl⟩ := h
  exact h1
theorem add_any {H : Heap} (n : Nat) {id off len : Nat} {cap : Option Nat} (l : List Nat) (hr : rowA H 1 (.sl id off 1 len cap) = some (bs l)) (hb : B8 l) (hlt : l.length < 9223372036854775808) : CallsC Tryz.prog 92 [vf (.sl id off 1 len cap)] H n (vb (sumN 0 l)) H n := by
  have h : ∃ v H' n', CallsC Tryz.prog 92 [vf (.sl id off 1 len cap)] H n v H' n' ∧ (v = vb (sumN 0 l) ∧ H' = H ∧ n' = n) := by
    refine CallsC.of_to (by kernel_rfl) ?_
    obtain ⟨_, hlen, _, hat⟩ := rowA_at hr
    have hl : len = l.length := by
      rw [bs_len] at hlen
      omega
    have hrow : ∀ (i : Nat) (x : Nat), l[i]? = some x → atA H id (off + i) (.int .u8 (x : Int)) := fun i x hx => hat i _ (bs_at hx)
    refine To.seq (by kernel_rfl) ?_
    refine To.region (by kernel_rfl) ?_
    refine Sg.go 1 (by kernel_rfl) ?_
    refine Sg.done (by kernel_rfl) ?_
    show To Tryz.prog 92 [1] _ _ _ _
    refine To.seq (by kernel_rfl) ?_
    refine To.region (by kernel_rfl) ?_
    refine Sg.go 1 (by kernel_rfl) ?_
    refine Sg.done (by kernel_rfl) ?_
    show To Tryz.prog 92 [1, 1] _ _ _ _
    refine To.seq (by kernel_rfl) ?_
    refine To.seq (by kernel_rfl) ?_
    refine To.region (by kernel_rfl) ?_
    refine Sg.go 1 (by kernel_rfl) ?_
    refine Sg.op (some 7) (by kernel_rfl) (jLen (l := len) (by kernel_rfl)) ?_
    refine Sg.go 1 (by kernel_rfl) ?_
    refine Sg.done (by kernel_rfl) ?_
    show To Tryz.prog 92 [1, 0, 1, 1] _ _ _ _
    refine To.block 0 (by kernel_rfl) ?_
    refine To.loop (by kernel_rfl) ?_
    refine ToL.only [3, 6, 7, 8] [(3, vb 0), (6, vf (.sl id off 1 len cap)), (7, vi len), (8, vi 0)] (by kernel_rfl) ?_
    refine add_loop l hl hrow hb (by omega) len 0 0 _ (by omega) (by omega) (fun A hA => ?_)
    show To Tryz.prog 92 [1, 1, 1] _ _ _ _
    refine To.only [3] [(3, vb (sumN 0 l))] (by simp only [getsL, hA, List.drop_zero]) ?_
    refine To.seq (by kernel_rfl) ?_
    refine To.region (by kernel_rfl) ?_
    refine Sg.go 2 (by kernel_rfl) ?_
    refine Sg.done (by kernel_rfl) ?_
    show To Tryz.prog 92 [1, 1, 1, 1] _ _ _ _
    refine To.ret (by kernel_rfl) ?_
    exact ⟨.inr rfl, _, by kernel_rfl, rfl, rfl, rfl⟩
  obtain ⟨v, H', n', h1, rfl, rfl, rfl⟩ := h
  exact h1
end Go.Proofs.YtkimkgbppegkhaaGreat.Cm
