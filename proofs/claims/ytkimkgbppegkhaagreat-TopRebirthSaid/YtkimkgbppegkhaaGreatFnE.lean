/- The clean machine's walks of rows: sums. -/
import Derived.Test.YtkimkgbppegkhaaGreatFnD
namespace Go.Proofs.YtkimkgbppegkhaaGreat.Cm
open Go Go.RowKit Go.Proofs.YtkimkgbppegkhaaGreat.Gf
section
variable {P : Program} {H : Heap} {n : Nat} {o : Oper} {r : Operand → Option V}
noncomputable def minK (o : Oper) (r : Operand → Option V) : Option (Bool × Int × Int) := match o.op with
  | .call { callee := .builtin b, args := xs, .. } => match b, valsA r xs.toList with
    | .min, some [.u (.f (.int .i64 x)), .u (.f (.int .i64 y))] => some (false, x, y)
    | .max, some [.u (.f (.int .i64 x)), .u (.f (.int .i64 y))] => some (true, x, y)
    | _, _ => none
  | _ => none
theorem jMin {mx : Bool} {x y z : Int} (h : (if mx = true then (if y > x then y else x) else (if y < x then y else x)) = z) (hk : minK o r = some (mx, x, y)) : OpJ P o r H n (vf (.int .i64 z)) H n := by
  unfold minK at hk
  split at hk
  · rename_i b xs ats ho
    split at hk
    · rename_i h1
      cases hk
      exact .prim (vf (.int .i64 z), [], 0) (by simp only [ho, stepOp, h1, builtinA, minA, ← h, if_true])
    · rename_i h1
      cases hk
      exact .prim (vf (.int .i64 z), [], 0) (by simp only [ho, stepOp, h1, builtinA, minA, ← h, if_true])
    · cases hk
  · cases hk
end
def addR : List Nat → List Nat → List Nat
  | y :: ys, x :: xs => (y ^^^ x) :: addR ys xs
  | ys, _ => ys
theorem addR_nil (ys : List Nat) : addR ys [] = ys := by cases ys <;> rfl
theorem addR_len : ∀ (ys xs : List Nat), (addR ys xs).length = ys.length
  | [], xs => by cases xs <;> rfl
  | y :: ys, [] => rfl
  | y :: ys, x :: xs => by simp [addR, addR_len ys xs]
theorem addR_b8 : ∀ {ys xs : List Nat}, B8 ys → B8 xs → B8 (addR ys xs)
  | [], xs, h, _ => by cases xs <;> exact h
  | y :: ys, [], h, _ => h
  | y :: ys, x :: xs, h, k => fun z hz => by
    rcases List.mem_cons.1 hz with rfl | hz
    · exact xor_lt (h _ (by simp)) (k _ (by simp))
    · exact addR_b8 (fun a ha => h a (by simp [ha])) (fun a ha => k a (by simp [ha])) z hz
/-- a row, as a heap has it -/
def RowV (H : Heap) (f : F) (l : List Nat) : Prop := rowA H 1 f = some (bs l) ∧ B8 l ∧ l.length ≤ 140737488355328
theorem RowV.mono {H H' : Heap} (hm : Mono H H') {f : F} {l : List Nat} (h : RowV H f l) : RowV H' f l := ⟨rowA_mono hm h.1, h.2⟩
theorem RowV.cases {H : Heap} {f : F} {l : List Nat} (h : RowV H f l) : (f = .sl0 ∧ l = []) ∨ ∃ id off cap, f = .sl id off 1 l.length cap ∧ ∀ (i x : Nat), l[i]? = some x → atA H id (off + i) (.int .u8 (x : Int)) := by
  obtain ⟨hr, _, _⟩ := h
  cases f with
  | sl0 =>
    left
    simp only [rowA, Option.some.injEq] at hr
    cases l with
    | nil => exact ⟨rfl, rfl⟩
    | cons a b => simp [bs] at hr
  | sl id off sz len cap =>
    right
    obtain ⟨rfl, hlen, _, hat⟩ := rowA_at hr
    have hl : len = l.length := by
      rw [bs_len] at hlen
      omega
    subst hl
    exact ⟨id, off, cap, rfl, fun i x hx => hat i _ (bs_at hx)⟩
  | _ => simp [rowA] at hr
theorem RowV.lenA {H : Heap} {f : F} {l : List Nat} (h : RowV H f l) : Cm.lenA f = some l.length := by
  rcases h.cases with ⟨rfl, rfl⟩ | ⟨id, off, cap, rfl, _⟩ <;> rfl
/-- a row of rows -/
def RowsV (H : Heap) (f : F) (rs : List (List Nat)) : Prop := ∃ fs, rowA H 1 f = some fs ∧ All2 (RowV H) fs rs
theorem upd_mono {H0 H : Heap} {k : Nat} {ob : O} (hm : Mono H0 H) (hk : H0 k = none) : Mono H0 (upd H k (some ob)) := fun id o ho => by
  rw [upd_ne]
  · exact hm id o ho
  · rintro rfl; rw [hk] at ho; cases ho
theorem Top.none {H0 H : Heap} {n : Nat} (ht : Top H n) (hm : Mono H0 H) : H0 n = none := by
  cases hq : H0 n with
  | none => rfl
  | some ob => have := hm n ob hq; rw [ht n (Nat.le_refl _)] at this; cases this
theorem sum_in {o id off N : Nat} {cap : Option Nat} {H0 : Heap} {q : F} {cnt idx : Nat} (l : List Nat) (hb : B8 l) (hrow : ∀ (i x : Nat), l[i]? = some x → atA H0 id (off + i) (.int .u8 (x : Int))) (hN : N ≤ 1000) (h0 : H0 o = none) :
    ∀ (k i : Nat) (pre post : List Nat) (H : Heap) (n : Nat) (K : Ko), k + i = min N l.length → pre.length = i → pre.length + post.length = N → B8 post → H o = some (.cells (bs (pre ++ post)) true) → Mono H0 H → Top H n →
    (∀ A H', AtL A [(5, vf (.sl o 0 1 N none)), (13, vf q), (14, vi cnt), (15, vi idx)] → H' o = some (.cells (bs (pre ++ addR post (l.drop i))) true) → Mono H0 H' → Top H' (n + k) → K (.exit 2) A H' (n + k)) →
    ToL Tryz.prog 65 [0, 0, 1, 1, 0, 0, 1, 1, 0, 0, 1, 0, 1, 1] (tl [(5, vf (.sl o 0 1 N none)), (7, vf (.sl id off 1 l.length cap)), (13, vf q), (14, vi cnt), (15, vi idx), (23, vi (min N l.length)), (24, vi i)]) H n K := by
  intro k
  induction k with
  | zero =>
    intro i pre post H n K hk hp hpp hb2 ho hm ht hK
    refine ToL.round ?_
    refine To.seq (by kernel_rfl) ?_
    refine To.region (by kernel_rfl) ?_
    refine Sg.go 1 (by kernel_rfl) ?_
    refine Sg.done (by kernel_rfl) ?_
    show To Tryz.prog 65 [1, 0, 0, 1, 1, 0, 0, 1, 1, 0, 0, 1, 0, 1, 1] _ _ _ _
    refine To.seq (by kernel_rfl) ?_
    refine To.ifB (ltI (i : Int) ((min N l.length : Nat) : Int)) (by kernel_rfl) (by kernel_rfl) (fun g0 => ?_) (fun g0 => ?_)
    · skip
      exact absurd (ltI_true g0) (by omega)
    · skip
      refine To.exit 2 (by kernel_rfl) ?_
      refine hK _ H (getsL_spec (ts := [5, 13, 14, 15]) (by kernel_rfl)) ?_ hm ht
      rw [ho]
      rcases Nat.lt_or_ge l.length N with h' | h'
      · rw [List.drop_of_length_le (by omega), addR_nil]
      · have : post = [] := List.eq_nil_of_length_eq_zero (by omega)
        subst this
        cases l.drop i <;> rfl
  | succ k ih =>
    intro i pre post H n K hk hp hpp hb2 ho hm ht hK
    cases post with
    | nil => simp at hpp; omega
    | cons y post =>
    have hi : i < l.length := by omega
    have hx : l[i]? = some l[i] := List.getElem?_eq_getElem hi
    have hx8 : l[i] < 256 := hb _ (List.getElem_mem hi)
    have hy8 : y < 256 := hb2 y (by simp)
    have hd : l.drop i = l[i] :: l.drop (i + 1) := List.drop_eq_getElem_cons hi
    have hon : o ≠ n := by have := ht.lt ho; omega
    have hiN : i < N := by simp at hpp; omega
    have hy : (bs (pre ++ y :: post))[0 + i * 1]? = some (.int .u8 (y : Int)) := by
      refine bs_at ?_
      rw [show 0 + i * 1 = pre.length by omega]
      simp
    refine ToL.round ?_
    refine To.seq (by kernel_rfl) ?_
    refine To.region (by kernel_rfl) ?_
    refine Sg.go 1 (by kernel_rfl) ?_
    refine Sg.done (by kernel_rfl) ?_
    show To Tryz.prog 65 [1, 0, 0, 1, 1, 0, 0, 1, 1, 0, 0, 1, 0, 1, 1] _ _ _ _
    refine To.seq (by kernel_rfl) ?_
    refine To.ifB (ltI (i : Int) ((min N l.length : Nat) : Int)) (by kernel_rfl) (by kernel_rfl) (fun g0 => ?_) (fun g0 => ?_)
    · skip
      refine To.skip (by kernel_rfl) ?_
      show To Tryz.prog 65 [1, 1, 0, 0, 1, 1, 0, 0, 1, 1, 0, 0, 1, 0, 1, 1] _ _ _ _
      refine To.seq (by kernel_rfl) ?_
      refine To.block 3 (by kernel_rfl) ?_
      refine To.seq (by kernel_rfl) ?_
      refine To.region (by kernel_rfl) ?_
      refine Sg.go 2 (by kernel_rfl) ?_
      refine Sg.done (by kernel_rfl) ?_
      show To Tryz.prog 65 [1, 0, 0, 1, 1, 0, 0, 1, 1, 0, 0, 1, 1, 0, 0, 1, 0, 1, 1] _ _ _ _
      refine To.draw [2, 3, 4, 5, 6, 7, 8, 9, 10, 11, 0, 1, 12, 13] progOk (by kernel_rfl) (by kernel_rfl) ?_
      refine Sd.go (L := [4, 5, 6, 7, 8, 9, 10, 11, 0, 1, 12, 13]) [2, 3] (by kernel_rfl) ?_
      refine Sd.still (some 31) (by kernel_rfl) (by kernel_rfl) (by kernel_rfl) (jIdx (id := o) (off := 0) (sz := 1) (len := N) (k := i) hiN (by kernel_rfl)) ?_
      refine Sd.read (some 32) (o) (by kernel_rfl) (by kernel_rfl) (by kernel_rfl) trivial (jLoad (id := o) (off := 0 + i * 1) ho hy (by kernel_rfl)) ?_
      refine Sd.go (L := [8, 9, 10, 11, 0, 1, 12, 13]) [6, 7] (by kernel_rfl) ?_
      refine Sd.still (some 35) (by kernel_rfl) (by kernel_rfl) (by kernel_rfl) (jIdx (id := id) (off := off) (sz := 1) (len := l.length) (k := i) hi (by kernel_rfl)) ?_
      refine Sd.read (some 36) (id) (by kernel_rfl) (by kernel_rfl) (by kernel_rfl) trivial (jLoadX (id := id) (off := off + i * 1) (by rw [Nat.mul_one]; exact (hrow i _ hx).mono (hm _)) (by kernel_rfl)) ?_
      refine Sd.eff (some 37) (by kernel_rfl) (by kernel_rfl) (jFresh (v := vf (.sl n 0 1 2 none)) (ob := .cells [.int .u8 (y : Int), .int .u8 (l[i] : Int)] true) (by kernel_rfl)) ⟨.inl (by kernel_rfl), .inl (by kernel_rfl), trivial⟩ ?_
      refine Sd.eff (some 38) (by kernel_rfl) (by kernel_rfl) (jCall (by kernel_rfl) (add_any (n + 1) [y, l[i]] row2 (by intro x hx; simp at hx; rcases hx with rfl | rfl <;> assumption) (by simp)) (by kernel_rfl)) ⟨.inl (by kernel_rfl), .inl (by kernel_rfl), trivial⟩ ?_
      refine Sd.go (L := [12, 13]) [0, 1] (by kernel_rfl) ?_
      refine Sd.still (some 39) (by kernel_rfl) (by kernel_rfl) (by kernel_rfl) (jIdx (id := o) (off := 0) (sz := 1) (len := N) (k := i) hiN (by kernel_rfl)) ?_
      refine Sd.eff none (by kernel_rfl) (by kernel_rfl) (jStore (id := o) (off := 0 + i * 1) (new := [.int .u8 ((sumN 0 [y, l[i]] : Nat) : Int)]) (cs := bs (pre ++ y :: post)) (ex := true) (by rw [upd_ne _ _ hon]; exact ho) (by rw [bs_len]; simp; omega) (by kernel_rfl)) ⟨.inl (by kernel_rfl), .inl (by kernel_rfl), trivial⟩ ?_
      refine Sd.done ?_
      show To Tryz.prog 65 [1, 1, 1, 0, 0, 1, 1, 0, 0, 1, 1, 0, 0, 1, 0, 1, 1] _ _ _ _
      refine To.region (by kernel_rfl) ?_
      refine Sg.op (some 40) (by kernel_rfl) (jBin (b_add .i64 i 1 ((i + 1 : Nat) : Int) (wrap64 (by omega) (by omega))) (by kernel_rfl)) ?_
      refine Sg.go 1 (by kernel_rfl) ?_
      refine Sg.done (by kernel_rfl) ?_
      refine ToL.only [5, 7, 13, 14, 15, 23, 24] [(5, vf (.sl o 0 1 N none)), (7, vf (.sl id off 1 l.length cap)), (13, vf q), (14, vi cnt), (15, vi idx), (23, vi (min N l.length)), (24, vi (i + 1))] (by kernel_rfl) ?_
      have hn : n + (k + 1) = n + 1 + k := by omega
      rw [hn] at hK
      refine ih (i + 1) (pre ++ [y ^^^ l[i]]) post _ (n + 1) K (by omega) (by simp; omega) (by simp at hpp ⊢; omega) (fun a ha => hb2 a (by simp [ha])) ?_ (upd_mono (upd_mono hm (ht.none hm)) h0) ((ht.new _).set (by have := ht.lt ho; omega) _) (fun A H' h1 h2 h3 h4 => ?_)
      · rw [upd_same, splice_bs hp, List.append_assoc, List.singleton_append, show sumN 0 [y, l[i]] = y ^^^ l[i] by simp only [sumN, Nat.zero_xor]]
      · refine hK A H' h1 ?_ h3 h4
        rw [h2, hd, List.append_assoc, List.singleton_append]
        rfl
    · skip
      exact absurd (ltI_false g0) (by omega)
theorem All2.nth {α β : Type} {R : α → β → Prop} : ∀ {l : List α} {k : List β}, All2 R l k → ∀ {i : Nat} (h : i < k.length), ∃ a, l[i]? = some a ∧ R a k[i]
  | a :: l, b :: k, H, 0, _ => ⟨a, rfl, H.1⟩
  | a :: l, b :: k, H, i + 1, h => by simpa using All2.nth H.2 (i := i) (by simpa using h)
  | [], [], _, i, h => by simp at h
  | [], _ :: _, H, _, _ => H.elim
  | _ :: _, [], H, _, _ => H.elim
theorem sum_out {o id off N : Nat} {cap : Option Nat} {fs : List F} {H0 : Heap} (rs : List (List Nat)) (hrs : All2 (RowV H0) fs rs) (hat : ∀ (i : Nat) f, fs[i]? = some f → atA H0 id (off + i) f) (hN : N ≤ 1000) (h0 : H0 o = none) (hlt : rs.length < 9223372036854775808) :
    ∀ (k i : Nat) (cur : List Nat) (H : Heap) (n : Nat) (K : Ko), k + i = rs.length → cur.length = N → B8 cur → H o = some (.cells (bs cur) true) → Mono H0 H → Top H n →
    (∀ A H' n', A 5 = some (vf (.sl o 0 1 N none)) → H' o = some (.cells (bs ((rs.drop i).foldl addR cur)) true) → Mono H0 H' → Top H' n' → n' ≤ n + k * N → K (.exit 0) A H' n') →
    ToL Tryz.prog 65 [0, 0, 1, 0, 1, 1] (tl [(5, vf (.sl o 0 1 N none)), (13, vf (.sl id off 1 rs.length cap)), (14, vi rs.length), (15, vi i)]) H n K := by
  intro k
  induction k with
  | zero =>
    intro i cur H n K hk hcur hb ho hm ht hK
    refine ToL.round ?_
    refine To.seq (by kernel_rfl) ?_
    refine To.region (by kernel_rfl) ?_
    refine Sg.go 1 (by kernel_rfl) ?_
    refine Sg.done (by kernel_rfl) ?_
    show To Tryz.prog 65 [1, 0, 0, 1, 0, 1, 1] _ _ _ _
    refine To.seq (by kernel_rfl) ?_
    refine To.ifB (ltI (i : Int) (rs.length : Int)) (by kernel_rfl) (by kernel_rfl) (fun g0 => ?_) (fun g0 => ?_)
    · skip
      exact absurd (ltI_true g0) (by omega)
    · skip
      refine To.exit 0 (by kernel_rfl) ?_
      exact hK _ H n (by kernel_rfl) (by rw [ho, List.drop_of_length_le (by omega)]; rfl) hm ht (by omega)
  | succ k ih =>
    intro i cur H n K hk hcur hb ho hm ht hK
    have hi : i < rs.length := by omega
    obtain ⟨f, hf, hR⟩ := hrs.nth hi
    have hd : rs.drop i = rs[i] :: rs.drop (i + 1) := List.drop_eq_getElem_cons hi
    have hlen := hR.lenA
    refine ToL.round ?_
    refine To.seq (by kernel_rfl) ?_
    refine To.region (by kernel_rfl) ?_
    refine Sg.go 1 (by kernel_rfl) ?_
    refine Sg.done (by kernel_rfl) ?_
    show To Tryz.prog 65 [1, 0, 0, 1, 0, 1, 1] _ _ _ _
    refine To.seq (by kernel_rfl) ?_
    refine To.ifB (ltI (i : Int) (rs.length : Int)) (by kernel_rfl) (by kernel_rfl) (fun g0 => ?_) (fun g0 => ?_)
    · skip
      refine To.skip (by kernel_rfl) ?_
      show To Tryz.prog 65 [1, 1, 0, 0, 1, 0, 1, 1] _ _ _ _
      refine To.seq (by kernel_rfl) ?_
      refine To.block 1 (by kernel_rfl) ?_
      refine To.seq (by kernel_rfl) ?_
      refine To.region (by kernel_rfl) ?_
      refine Sg.op (some 17) (by kernel_rfl) (jIdx (id := id) (off := off) (sz := 1) (len := rs.length) (k := i) hi (by kernel_rfl)) ?_
      rcases hR.cases with ⟨rfl, hnil⟩ | ⟨id2, off2, cap2, rfl, hrow2⟩
      · skip
        refine Sg.op (some 18) (by kernel_rfl) (jLoadX (id := id) (off := off + i * 1) (by rw [Nat.mul_one]; exact (hat i _ hf).mono (hm _)) (by kernel_rfl)) ?_
        refine Sg.go 1 (by kernel_rfl) ?_
        refine Sg.done (by kernel_rfl) ?_
        show To Tryz.prog 65 [1, 0, 0, 1, 1, 0, 0, 1, 0, 1, 1] _ _ _ _
        refine To.seq (by kernel_rfl) ?_
        refine To.region (by kernel_rfl) ?_
        refine Sg.go 1 (by kernel_rfl) ?_
        refine Sg.op (some 20) (by kernel_rfl) (jLen (l := N) (by kernel_rfl)) ?_
        refine Sg.go 1 (by kernel_rfl) ?_
        refine Sg.op (some 22) (by kernel_rfl) (jLen (l := 0) (by kernel_rfl)) ?_
        refine Sg.op (some 23) (by kernel_rfl) (jMin (mx := false) (x := (N : Int)) (y := 0) (z := 0) (by simp only [Bool.false_eq_true, if_false]; split <;> omega) (by kernel_rfl)) ?_
        refine Sg.go 1 (by kernel_rfl) ?_
        refine Sg.done (by kernel_rfl) ?_
        show To Tryz.prog 65 [1, 1, 0, 0, 1, 1, 0, 0, 1, 0, 1, 1] _ _ _ _
        refine To.block 2 (by kernel_rfl) ?_
        refine To.loop (by kernel_rfl) ?_
        refine ToL.round ?_
        refine To.seq (by kernel_rfl) ?_
        refine To.region (by kernel_rfl) ?_
        refine Sg.go 1 (by kernel_rfl) ?_
        refine Sg.done (by kernel_rfl) ?_
        show To Tryz.prog 65 [1, 0, 0, 1, 1, 0, 0, 1, 1, 0, 0, 1, 0, 1, 1] _ _ _ _
        refine To.seq (by kernel_rfl) ?_
        refine To.ifF (by kernel_rfl) (by kernel_rfl) ?_
        refine To.exit 2 (by kernel_rfl) ?_
        skip
        show To Tryz.prog 65 [1, 1, 1, 0, 0, 1, 0, 1, 1] _ _ _ _
        refine To.region (by kernel_rfl) ?_
        refine Sg.op (some 41) (by kernel_rfl) (jBin (b_add .i64 i 1 ((i + 1 : Nat) : Int) (wrap64 (by omega) (by omega))) (by kernel_rfl)) ?_
        refine Sg.go 1 (by kernel_rfl) ?_
        refine Sg.done (by kernel_rfl) ?_
        refine ToL.only [5, 13, 14, 15] [(5, vf (.sl o 0 1 N none)), (13, vf (.sl id off 1 rs.length cap)), (14, vi rs.length), (15, vi (i + 1))] (by kernel_rfl) ?_
        refine ih (i + 1) (addR cur rs[i]) H n K (by omega) (by rw [addR_len]; exact hcur) (addR_b8 hb hR.2.1) (by rw [hnil, addR_nil]; exact ho) hm ht (fun A H'' n' k1 k2 k3 k4 k5 => hK A H'' n' k1 (by rw [k2, hd]; rfl) k3 k4 (by rw [Nat.succ_mul]; omega))
      · skip
        refine Sg.op (some 18) (by kernel_rfl) (jLoadX (id := id) (off := off + i * 1) (by rw [Nat.mul_one]; exact (hat i _ hf).mono (hm _)) (by kernel_rfl)) ?_
        refine Sg.go 1 (by kernel_rfl) ?_
        refine Sg.done (by kernel_rfl) ?_
        show To Tryz.prog 65 [1, 0, 0, 1, 1, 0, 0, 1, 0, 1, 1] _ _ _ _
        refine To.seq (by kernel_rfl) ?_
        refine To.region (by kernel_rfl) ?_
        refine Sg.go 1 (by kernel_rfl) ?_
        refine Sg.op (some 20) (by kernel_rfl) (jLen (l := N) (by kernel_rfl)) ?_
        refine Sg.go 1 (by kernel_rfl) ?_
        refine Sg.op (some 22) (by kernel_rfl) (jLen (l := rs[i].length) (by kernel_rfl)) ?_
        refine Sg.op (some 23) (by kernel_rfl) (jMin (mx := false) (x := (N : Int)) (y := (rs[i].length : Int)) (z := ((min N rs[i].length : Nat) : Int)) (by simp only [Bool.false_eq_true, if_false]; split <;> omega) (by kernel_rfl)) ?_
        refine Sg.go 1 (by kernel_rfl) ?_
        refine Sg.done (by kernel_rfl) ?_
        show To Tryz.prog 65 [1, 1, 0, 0, 1, 1, 0, 0, 1, 0, 1, 1] _ _ _ _
        refine To.block 2 (by kernel_rfl) ?_
        refine To.loop (by kernel_rfl) ?_
        refine ToL.only [5, 7, 13, 14, 15, 23, 24] [(5, vf (.sl o 0 1 N none)), (7, vf (.sl id2 off2 1 rs[i].length cap2)), (13, vf (.sl id off 1 rs.length cap)), (14, vi rs.length), (15, vi i), (23, vi (min N rs[i].length)), (24, vi 0)] (by kernel_rfl) ?_
        refine sum_in rs[i] hR.2.1 hrow2 hN h0 (min N rs[i].length) 0 [] cur H n _ rfl rfl (by simpa using hcur) hb ho hm ht (fun A H' h1 h2 h3 h4 => ?_)
        show To Tryz.prog 65 [1, 1, 1, 0, 0, 1, 0, 1, 1] _ _ _ _
        refine To.keep _ ?_ h1.sub
        refine To.region (by kernel_rfl) ?_
        refine Sg.op (some 41) (by kernel_rfl) (jBin (b_add .i64 i 1 ((i + 1 : Nat) : Int) (wrap64 (by omega) (by omega))) (by kernel_rfl)) ?_
        refine Sg.go 1 (by kernel_rfl) ?_
        refine Sg.done (by kernel_rfl) ?_
        refine ToL.only [5, 13, 14, 15] [(5, vf (.sl o 0 1 N none)), (13, vf (.sl id off 1 rs.length cap)), (14, vi rs.length), (15, vi (i + 1))] (by kernel_rfl) ?_
        refine ih (i + 1) (addR cur rs[i]) H' _ K (by omega) (by rw [addR_len]; exact hcur) (addR_b8 hb hR.2.1) h2 h3 h4 (fun A H'' n' k1 k2 k3 k4 k5 => hK A H'' n' k1 (by rw [k2, hd]; rfl) k3 k4 (by rw [Nat.succ_mul]; omega))
    · skip
      exact absurd (ltI_false g0) (by omega)
def sumRows (N : Nat) (rs : List (List Nat)) : List Nat := rs.foldl addR (List.replicate N 0)
theorem RowsV.cases {H : Heap} {f : F} {rs : List (List Nat)} (h : RowsV H f rs) : (f = .sl0 ∧ rs = []) ∨ ∃ id off cap fs, f = .sl id off 1 rs.length cap ∧ All2 (RowV H) fs rs ∧ ∀ (i : Nat) g, fs[i]? = some g → atA H id (off + i) g := by
  obtain ⟨fs, hr, hA⟩ := h
  have hlen := hA.length
  cases f with
  | sl0 =>
    left
    simp only [rowA, Option.some.injEq] at hr
    subst hr
    exact ⟨rfl, List.eq_nil_of_length_eq_zero hlen⟩
  | sl id off sz len cap =>
    right
    obtain ⟨rfl, hln, _, hat⟩ := rowA_at hr
    have hl : len = rs.length := by omega
    subst hl
    exact ⟨id, off, cap, fs, rfl, hA, hat⟩
  | _ => simp [rowA] at hr
theorem sum_any {H : Heap} {n N : Nat} {f : F} (rs : List (List Nat)) (hr : RowsV H f rs) (hN : N ≤ 1000) (hlt : rs.length < 9223372036854775808) (ht : Top H n) :
    CallsC Tryz.prog 65 [vi N, vf f] H n (vf (.sl n 0 1 N none)) (upd H n (some (.cells (bs (sumRows N rs)) true))) (n + 1 + rs.length * N) := by
  have h : ∃ v H' n', CallsC Tryz.prog 65 [vi N, vf f] H n v H' n' ∧ (v = vf (.sl n 0 1 N none) ∧ H' n = some (.cells (bs (sumRows N rs)) true) ∧ Mono H H' ∧ n' ≤ n + 1 + rs.length * N) := by
    refine CallsC.of_to (by kernel_rfl) ?_
    have h0 : H n = none := ht n (Nat.le_refl _)
    have hb : B8 (List.replicate N 0) := fun x hx => by rw [List.eq_of_mem_replicate hx]; omega
    rcases hr.cases with ⟨rfl, rfl⟩ | ⟨id, off, cap, fs, rfl, hA, hat⟩
    · skip
      refine To.seq (by kernel_rfl) ?_
      refine To.region (by kernel_rfl) ?_
      refine Sg.go 1 (by kernel_rfl) ?_
      refine Sg.done (by kernel_rfl) ?_
      show To Tryz.prog 65 [1] _ _ _ _
      refine To.seq (by kernel_rfl) ?_
      refine To.region (by kernel_rfl) ?_
      refine Sg.go 1 (by kernel_rfl) ?_
      refine Sg.op (some 10) (by kernel_rfl) (jMin (mx := false) (x := (N : Int)) (y := 1000) (z := (N : Int)) (by simp only [Bool.false_eq_true, if_false]; split <;> omega) (by kernel_rfl)) ?_
      refine Sg.op (some 11) (by kernel_rfl) (jMin (mx := true) (x := 0) (y := (N : Int)) (z := (N : Int)) (by simp only [if_true]; split <;> omega) (by kernel_rfl)) ?_
      refine Sg.op (some 12) (by kernel_rfl) (jMake (ti := ⟨1, 1, [.int .u8 0]⟩) (a := N) (by simp only; omega) (by kernel_rfl)) ?_
      refine Sg.go 1 (by kernel_rfl) ?_
      refine Sg.done (by kernel_rfl) ?_
      show To Tryz.prog 65 [1, 1] _ _ _ _
      refine To.seq (by kernel_rfl) ?_
      refine To.seq (by kernel_rfl) ?_
      refine To.region (by kernel_rfl) ?_
      refine Sg.go 1 (by kernel_rfl) ?_
      refine Sg.op (some 14) (by kernel_rfl) (jLen (l := 0) (by kernel_rfl)) ?_
      refine Sg.go 1 (by kernel_rfl) ?_
      refine Sg.done (by kernel_rfl) ?_
      show To Tryz.prog 65 [1, 0, 1, 1] _ _ _ _
      refine To.block 0 (by kernel_rfl) ?_
      refine To.loop (by kernel_rfl) ?_
      refine ToL.round ?_
      refine To.seq (by kernel_rfl) ?_
      refine To.region (by kernel_rfl) ?_
      refine Sg.go 1 (by kernel_rfl) ?_
      refine Sg.done (by kernel_rfl) ?_
      show To Tryz.prog 65 [1, 0, 0, 1, 0, 1, 1] _ _ _ _
      refine To.seq (by kernel_rfl) ?_
      refine To.ifF (by kernel_rfl) (by kernel_rfl) ?_
      refine To.exit 0 (by kernel_rfl) ?_
      skip
      show To Tryz.prog 65 [1, 1, 1] _ _ _ _
      refine To.seq (by kernel_rfl) ?_
      refine To.region (by kernel_rfl) ?_
      refine Sg.go 2 (by kernel_rfl) ?_
      refine Sg.done (by kernel_rfl) ?_
      show To Tryz.prog 65 [1, 1, 1, 1] _ _ _ _
      refine To.ret (by kernel_rfl) ?_
      exact ⟨.inr rfl, _, by kernel_rfl, rfl, by rw [upd_same, zeros_bs]; rfl, upd_mono (fun _ _ h => h) h0, by simp⟩
    · skip
      refine To.seq (by kernel_rfl) ?_
      refine To.region (by kernel_rfl) ?_
      refine Sg.go 1 (by kernel_rfl) ?_
      refine Sg.done (by kernel_rfl) ?_
      show To Tryz.prog 65 [1] _ _ _ _
      refine To.seq (by kernel_rfl) ?_
      refine To.region (by kernel_rfl) ?_
      refine Sg.go 1 (by kernel_rfl) ?_
      refine Sg.op (some 10) (by kernel_rfl) (jMin (mx := false) (x := (N : Int)) (y := 1000) (z := (N : Int)) (by simp only [Bool.false_eq_true, if_false]; split <;> omega) (by kernel_rfl)) ?_
      refine Sg.op (some 11) (by kernel_rfl) (jMin (mx := true) (x := 0) (y := (N : Int)) (z := (N : Int)) (by simp only [if_true]; split <;> omega) (by kernel_rfl)) ?_
      refine Sg.op (some 12) (by kernel_rfl) (jMake (ti := ⟨1, 1, [.int .u8 0]⟩) (a := N) (by simp only; omega) (by kernel_rfl)) ?_
      refine Sg.go 1 (by kernel_rfl) ?_
      refine Sg.done (by kernel_rfl) ?_
      show To Tryz.prog 65 [1, 1] _ _ _ _
      refine To.seq (by kernel_rfl) ?_
      refine To.seq (by kernel_rfl) ?_
      refine To.region (by kernel_rfl) ?_
      refine Sg.go 1 (by kernel_rfl) ?_
      refine Sg.op (some 14) (by kernel_rfl) (jLen (l := rs.length) (by kernel_rfl)) ?_
      refine Sg.go 1 (by kernel_rfl) ?_
      refine Sg.done (by kernel_rfl) ?_
      show To Tryz.prog 65 [1, 0, 1, 1] _ _ _ _
      refine To.block 0 (by kernel_rfl) ?_
      refine To.loop (by kernel_rfl) ?_
      refine ToL.only [5, 13, 14, 15] [(5, vf (.sl n 0 1 N none)), (13, vf (.sl id off 1 rs.length cap)), (14, vi rs.length), (15, vi 0)] (by kernel_rfl) ?_
      refine sum_out rs hA hat hN h0 hlt rs.length 0 (List.replicate N 0) _ (n + 1) _ rfl (by simp) hb (by rw [upd_same, zeros_bs]) (upd_mono (fun _ _ h => h) h0) (ht.new _) (fun A H' n' h1 h2 h3 h4 h5 => ?_)
      show To Tryz.prog 65 [1, 1, 1] _ _ _ _
      refine To.only [5] [(5, vf (.sl n 0 1 N none))] (by simp only [getsL, h1]) ?_
      refine To.seq (by kernel_rfl) ?_
      refine To.region (by kernel_rfl) ?_
      refine Sg.go 2 (by kernel_rfl) ?_
      refine Sg.done (by kernel_rfl) ?_
      show To Tryz.prog 65 [1, 1, 1, 1] _ _ _ _
      refine To.ret (by kernel_rfl) ?_
      exact ⟨.inr rfl, _, by kernel_rfl, rfl, h2, h3, by omega⟩
  obtain ⟨v, H', n', h1, rfl, h2, h3, h4⟩ := h
  refine h1.less (fun j ob hj => ?_) h4
  by_cases e : j = n
  · subst e; rw [upd_same] at hj; cases hj; exact h2
  · rw [upd_ne _ _ e] at hj; exact h3 j ob hj
end Go.Proofs.YtkimkgbppegkhaaGreat.Cm
