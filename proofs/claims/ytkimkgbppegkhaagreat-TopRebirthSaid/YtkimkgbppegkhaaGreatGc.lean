/- The clean machine's walks of solving (3): a matrix brought into steps. -/
import Derived.Test.YtkimkgbppegkhaaGreatGb
import Derived.Test.YtkimkgbppegkhaaGreatLb
namespace Go.Proofs.YtkimkgbppegkhaaGreat.Cm
open Go Go.RowKit Go.Proofs.YtkimkgbppegkhaaGreat.Gf

theorem is139 {X : Heap} {n : Nat} {b k : Nat} {f : F} (l : List Nat) (hr : RowV X f l) (hb : X b = some (.cells [.int .i64 ((k : Nat) : Int)] true)) (hk : k < l.length) (ht : Top X n) : PureC 139 [vf (f), vf (.ptr (b) (0))] X n fun v X' => v = vf (.bool (decide ((l[k]?).getD 0 ≠ 0))) := by
  refine PureC.of_to (by kernel_rfl) ?_
  have s0 := Sep.ini ht
  have hm0 : Mono X X := Mono.rfl
  obtain ⟨id, off, cap, rfl, hat⟩ := hr.at hk
  refine To.seq (by kernel_rfl) ?_
  refine To.region (by kernel_rfl) ?_
  refine Sg.go 1 (by kernel_rfl) ?_
  refine Sg.done (by kernel_rfl) ?_
  show To Tryz.prog 139 [1] _ _ _ _
  refine To.seq (by kernel_rfl) ?_
  refine To.region (by kernel_rfl) ?_
  refine Sg.go 1 (by kernel_rfl) ?_
  refine Sg.op (some 5) (by kernel_rfl) (jLoad (off := 0) (x := .int .i64 ((k : Nat) : Int)) (s0.mono _ _ hb) (by kernel_rfl) (by kernel_rfl)) ?_
  refine Sg.op (some 6) (by kernel_rfl) (jIdx (id := id) (off := off) (sz := 1) (len := l.length) (k := k) (by omega) (by kernel_rfl)) ?_
  refine Sg.op (some 7) (by kernel_rfl) (jLoadX (id := id) (off := off + k * 1) (x := .int .u8 (((l[k]?).getD 0 : Nat) : Int)) (by rw [Nat.mul_one]; exact hat) (by kernel_rfl)) ?_
  refine Sg.op (some 8) (by kernel_rfl) (jBin (op := .neq) (a := vb ((l[k]?).getD 0)) (b := vf (.int .u8 0)) (fun t => b_neq .u8 ((((l[k]?).getD 0 : Nat)) : Int) 0 t) (by kernel_rfl)) ?_
  refine Sg.go 1 (by kernel_rfl) ?_
  refine Sg.done (by kernel_rfl) ?_
  show To Tryz.prog 139 [1, 1] _ _ _ _
  refine To.ret (by kernel_rfl) ?_
  exact ⟨.inr rfl, vf (.bool (decide (((((l[k]?).getD 0 : Nat)) : Int) ≠ 0))), by kernel_rfl, X, _, s0, hm0, by congr 3; exact propext (by omega)⟩
theorem sum_two (l k : List Nat) : sumRows l.length [l, k] = addR l k := by
  show addR (addR (zs l.length) l) k = _
  rw [zs_addR]
theorem without_pure {X : Heap} {n : Nat} {c : Nat} {f g : F} (l k : List Nat) (hf : RowV X f l) (hg : RowV X g k) (h0 : 0 < k.length) (hlk : k.length = l.length) (hl : l.length ≤ 1000) (hc : c < 256) (ht : Top X n) : PureC 142 [vf (f), vf (.int .u8 ((c : Nat) : Int)), vf (g)] X n fun v X' => ∃ z, v = vf z ∧ RowV X' z (addR l (sca c k)) := by
  refine PureC.of_to (by kernel_rfl) ?_
  have s0 := Sep.ini ht
  have hm0 : Mono X X := Mono.rfl
  refine To.seq (by kernel_rfl) ?_
  refine To.region (by kernel_rfl) ?_
  refine Sg.go 1 (by kernel_rfl) ?_
  refine Sg.done (by kernel_rfl) ?_
  show To Tryz.prog 142 [1] _ _ _ _
  refine To.seq (by kernel_rfl) ?_
  refine To.region (by kernel_rfl) ?_
  refine Sg.go 1 (by kernel_rfl) ?_
  refine Sg.op (some 8) (by kernel_rfl) (jLenV (l := l.length) (hf.lenA) (by kernel_rfl)) ?_
  refine Sg.go 3 (by kernel_rfl) ?_
  obtain ⟨_, X1, n2, hc3, hm4, ht5, ⟨z, rfl, hz⟩⟩ := (scale_pure (c := c) k hg h0 hc s0.topX : PureC 141 [vf (.int .u8 ((c : Nat) : Int)), vf (g)] X (n) _)
  obtain ⟨H6, hc7, s8⟩ := s0.call hc3 hm4 ht5
  have hm0 := hm0.tr hm4
  have hf := hf.mono hm4
  have hg := hg.mono hm4
  refine Sg.op (some 12) (by kernel_rfl) (jCall (by kernel_rfl) hc7 (by kernel_rfl)) ?_
  obtain ⟨X9, H10, s11, m12, f13, J14⟩ := jNewF s8 (.cells [f, z] true)
  have hm0 := hm0.tr m12
  have hf := hf.mono m12
  have hg := hg.mono m12
  have hz := hz.mono m12
  refine Sg.op (some 13) (by kernel_rfl) (J14 _ _ (vf (.sl (n2) (0) 1 (2) none)) (by kernel_rfl)) ?_
  obtain ⟨_, X15, n16, hc17, hm18, ht19, ⟨y, rfl, hy⟩⟩ := (sum_pure (N := l.length) [l, sca c k] ⟨[f, z], row_all f13 rfl, ⟨hf, hz, trivial⟩⟩ hl (by simp) s11.topX : PureC 65 [vf (.int .i64 ((l.length : Nat) : Int)), vf (.sl (n2) (0) 1 (2) none)] X9 (n2 + 1) _)
  obtain ⟨H20, hc21, s22⟩ := s11.call hc17 hm18 ht19
  have f23 := hm18 _ _ f13
  have hm0 := hm0.tr hm18
  have hf := hf.mono hm18
  have hg := hg.mono hm18
  have hz := hz.mono hm18
  refine Sg.op (some 14) (by kernel_rfl) (jCall (by kernel_rfl) hc21 (by kernel_rfl)) ?_
  refine Sg.go 1 (by kernel_rfl) ?_
  refine Sg.done (by kernel_rfl) ?_
  show To Tryz.prog 142 [1, 1] _ _ _ _
  refine To.ret (by kernel_rfl) ?_
  exact ⟨.inr rfl, _, by kernel_rfl, X15, _, s22, hm0, y, rfl, by rw [← sum_two l (sca c k)]; exact hy⟩
theorem row_part {H : Heap} {id i len : Nat} {fs : List F} {ex : Bool} {cap : Option Nat} (h : H id = some (.cells fs ex)) (hl : len + i = fs.length) (h0 : i ≤ fs.length) : rowA H 1 (.sl id (0 + i * 1) 1 len cap) = some (fs.drop i) := by
  simp only [rowA, if_true, h]
  rw [if_pos (by omega)]
  congr 1
  rw [Nat.zero_add, Nat.mul_one, Nat.mul_one, List.take_of_length_le (by simp; omega)]
theorem reduce_any {X H : Heap} {n W N len im di : Nat} {fs gs : List F} (ms ds : List (List Nat)) (s0 : Sep X H n [(im, .cells fs false), (di, .cells gs false)]) (hA : All2 (RowV X) fs ms) (hB : All2 (RowV X) gs ds) (hms : Mx len W ms) (hds : Mx len N ds) (hlen : len < 100000) (hW0 : 0 < W) (hW : W ≤ 1000) (hN0 : 0 < N) (hN : N ≤ 1000) :
    ∃ v H' n', CallsC Tryz.prog 93 [vi W, vf (.sl im 0 1 len none), vf (.sl di 0 1 len none), vf (.bool false)] H n v H' n' ∧ ∃ k X' fs' gs' ts, v = vi k ∧ Sep X' H' n' [(im, .cells fs' false), (di, .cells gs' false)] ∧ Mono X X' ∧ All2 (RowV X') fs' (runs ts ms) ∧ All2 (RowV X') gs' (runs ts ds) ∧ oks len ts ∧ k ≤ W ∧ k ≤ len ∧ Un len k (runs ts ms) ∧ (k < W → ∀ i, k ≤ i → i < len → colN (runs ts ms) i k = 0) := by
  refine CallsC.of_to (by kernel_rfl) ?_
  have hm0 : Mono X X := Mono.rfl
  refine To.seq (by kernel_rfl) ?_
  refine To.region (by kernel_rfl) ?_
  refine Sg.go 1 (by kernel_rfl) ?_
  refine Sg.done (by kernel_rfl) ?_
  show To Tryz.prog 93 [1] _ _ _ _
  refine To.seq (by kernel_rfl) ?_
  refine To.region (by kernel_rfl) ?_
  refine Sg.go 1 (by kernel_rfl) ?_
  refine Sg.done (by kernel_rfl) ?_
  show To Tryz.prog 93 [1, 1] _ _ _ _
  refine To.seq (by kernel_rfl) ?_
  refine To.seq (by kernel_rfl) ?_
  refine To.region (by kernel_rfl) ?_
  obtain ⟨H24, s25, J26⟩ := jNewM s0 (.cells [.int .i64 0] true)
  refine Sg.op (some 10) (by kernel_rfl) (J26 _ _ (vf (.ptr (n) (0))) (by kernel_rfl)) ?_
  obtain ⟨H27, s28, J29⟩ := jSet (off := 0) (new := [.int .i64 0]) (cs' := [.int .i64 0]) s25 0 rfl (by simp) rfl
  have s28 : Sep X H27 (n + 1) [(n, .cells [.int .i64 0] true), (im, .cells (fs) false), (di, .cells (gs) false)] := s28
  refine Sg.op none (by kernel_rfl) (J29 _ _ (by kernel_rfl)) ?_
  refine Sg.done (by kernel_rfl) ?_
  show To Tryz.prog 93 [1, 0, 1, 1] _ _ _ _
  refine To.block 0 (by kernel_rfl) ?_
  refine To.loop (by kernel_rfl) ?_
  refine ToL.for (min W len) (fun i A H n => ∃ (Y : Heap) (ts : List Tn) (fs : List F) (gs : List F) (bx : Nat), AtL A [(0, vf (.int .i64 ((W : Nat) : Int))), (1, vf (.sl (im) (0) 1 (len) none)), (2, vf (.sl (di) (0) 1 (len) none)), (3, vf (.bool false)), (9, vf (.int .i64 ((i : Nat) : Int))), (10, vf (.ptr (bx) (0)))] ∧ Sep Y H n [(bx, .cells [.int .i64 ((i : Nat) : Int)] true), (im, .cells (fs) false), (di, .cells (gs) false)] ∧ Mono X Y ∧ All2 (RowV Y) fs (runs ts ms) ∧ All2 (RowV Y) gs (runs ts ds) ∧ oks len ts ∧ Un len i (runs ts ms)) ⟨X, [], fs, gs, n, getsL_spec (ts := [0, 1, 2, 3, 9, 10]) (by kernel_rfl), s28, (hm0), (hA), (hB), (fun _ h => by cases h), (fun _ h => by omega)⟩ (fun i A H n hi hI => ?_) (fun A H n hI => ?_)
  · skip
    obtain ⟨Y, ts, fs, gs, bx, hT, s30, hm0, hA, hB, hts, hU⟩ := hI
    refine To.keep _ ?_ hT.sub
    have hiW : i < W := by omega
    have hiN : i < len := by omega
    have hm := hms.runs hts
    have hd := hds.runs hts
    have hlf : fs.length = len := by have := hA.length; rw [hm.1] at this; exact this.symm
    have hlg : gs.length = len := by have := hB.length; rw [hd.1] at this; exact this.symm
    refine To.seq (by kernel_rfl) ?_
    refine To.seq (by kernel_rfl) ?_
    refine To.region (by kernel_rfl) ?_
    refine Sg.op (some 15) (by kernel_rfl) (jLoad (off := 0) (x := .int .i64 ((i : Nat) : Int)) (s30.at 0 rfl) (by kernel_rfl) (by kernel_rfl)) ?_
    refine Sg.go 1 (by kernel_rfl) ?_
    refine Sg.op (some 17) (by kernel_rfl) (jBin (b_lssT .i64 (x := ((i : Nat) : Int)) (y := ((W : Nat) : Int)) (by omega)) (by kernel_rfl)) ?_
    refine Sg.go 3 (by kernel_rfl) ?_
    refine Sg.op (some 21) (by kernel_rfl) (jLen (l := len) (by kernel_rfl)) ?_
    refine Sg.op (some 22) (by kernel_rfl) (jBin (b_lssT .i64 (x := ((i : Nat) : Int)) (y := ((len : Nat) : Int)) (by omega)) (by kernel_rfl)) ?_
    refine Sg.go 1 (by kernel_rfl) ?_
    refine Sg.done (by kernel_rfl) ?_
    show To Tryz.prog 93 [1, 0, 0, 0, 1, 0, 1, 1] _ _ _ _
    refine To.ifT (by kernel_rfl) (by kernel_rfl) ?_
    refine To.skip (by kernel_rfl) ?_
    show To Tryz.prog 93 [1, 0, 0, 1, 0, 1, 1] _ _ _ _
    refine To.seq (by kernel_rfl) ?_
    refine To.block 1 (by kernel_rfl) ?_
    refine To.seq (by kernel_rfl) ?_
    refine To.region (by kernel_rfl) ?_
    refine Sg.go 2 (by kernel_rfl) ?_
    refine Sg.op (some 28) (by kernel_rfl) (jSlice (id := im) (off := 0) (sz := 1) (len := len) (cap := none) (lo := some i) (hi := none) (L := len) (l := i) (h := len) (by rw [s30.at 1 rfl]; exact congrArg some hlf) rfl rfl (by omega) (by omega) (by simp) (by omega) (by kernel_rfl)) ?_
    obtain ⟨v, X2, n2, hc, hmX, ht2, hfi⟩ := (index66 (X := H) (g := 139) (caps := [.ptr bx 0]) (cs := fs.drop i) (fun j => decide (((rowN (runs ts ms) (i + j))[i]?).getD 0 ≠ 0)) (row_part (len := len - i) (s30.at 1 rfl) (by omega) (by omega)) (by simp; omega) (by kernel_rfl) (fun j x hx Y' m' hm' ht' => by
        rw [List.getElem?_drop] at hx
        have hj : i + j < len := by
          rcases Nat.lt_or_ge (i + j) len with h | h
          · exact h
          · rw [List.getElem?_eq_none (by omega)] at hx; cases hx
        obtain ⟨g, hg1, hg2⟩ := hA.row (i := i + j) (by rw [hm.1]; exact hj)
        rw [hx] at hg1; cases hg1
        exact is139 _ (hg2.mono (s30.mono.tr hm')) (hm' _ _ (s30.at 0 rfl)) (by rw [(hm.row hj).1]; omega) ht') s30.top : PureC _ [vf (.sl im (0 + i * 1) 1 (len - i) none), .u (.fn 139 [.ptr bx 0])] _ _ _)
    rcases hfi with ⟨j, hj, hpj, _, rfl⟩ | ⟨hn, rfl⟩
    · skip
      refine Sg.go 1 (by kernel_rfl) ?_
      obtain ⟨_, H31, n32, hc33, hm34, ht35, rfl⟩ := (PureC.same hc hmX ht2 : PureC 66 [vf (.sl (im) (0 + i * 1) 1 (len - i) none), .u (.fn 139 [.ptr (bx) (0)])] H (n) _)
      have s36 := s30.callH hc33 hm34 ht35
      refine Sg.op (some 30) (by kernel_rfl) (jCall (by kernel_rfl) hc33 (by kernel_rfl)) ?_
      have hj : i + j < len := by simp at hj; omega
      have hpj : colN (runs ts ms) (i + j) i ≠ 0 := of_decide_eq_true hpj
      refine Sg.go 1 (by kernel_rfl) ?_
      refine Sg.done (by kernel_rfl) ?_
      show To Tryz.prog 93 [1, 0, 0, 1, 0, 0, 1, 0, 1, 1] _ _ _ _
      refine To.seq (by kernel_rfl) ?_
      refine To.seq (by kernel_rfl) ?_
      refine To.region (by kernel_rfl) ?_
      refine Sg.go 1 (by kernel_rfl) ?_
      refine Sg.op (some 32) (by kernel_rfl) (jBin (b_lssF .i64 (x := ((j : Nat) : Int)) (y := (0 : Int)) (by omega)) (by kernel_rfl)) ?_
      refine Sg.done (by kernel_rfl) ?_
      show To Tryz.prog 93 [1, 0, 1, 0, 0, 1, 0, 0, 1, 0, 1, 1] _ _ _ _
      obtain ⟨a1, ha0, ha1⟩ := hA.row (i := i + j) (by rw [hm.1]; exact hj)
      obtain ⟨b1, hb0, hb1⟩ := hA.row (i := i) (by rw [hm.1]; exact hiN)
      refine To.ifF (by kernel_rfl) (by kernel_rfl) ?_
      refine To.skip (by kernel_rfl) ?_
      show To Tryz.prog 93 [1, 1, 0, 0, 1, 0, 0, 1, 0, 1, 1] _ _ _ _
      refine To.seq (by kernel_rfl) ?_
      refine To.draw [0, 1, 6, 7, 8, 9, 10, 11, 12, 13, 14, 15, 16, 17, 2, 3, 4, 5, 18, 19] progOk (by kernel_rfl) (by kernel_rfl) ?_
      refine Sd.go (L := [9, 10, 11, 12, 13, 14, 15, 16, 17, 2, 3, 4, 5, 18, 19]) [0, 1, 6, 7, 8] (by kernel_rfl) ?_
      refine Sd.still (some 45) (by kernel_rfl) (by kernel_rfl) (by kernel_rfl) (jBin (b_addN (i) (j) (by omega)) (by kernel_rfl)) ?_
      refine Sd.still (some 46) (by kernel_rfl) (by kernel_rfl) (by kernel_rfl) (jIdx (id := im) (off := 0) (sz := 1) (len := len) (k := i + j) (by omega) (by kernel_rfl)) ?_
      refine Sd.read (some 47) (im) (by kernel_rfl) (by kernel_rfl) (by kernel_rfl) trivial (jLoad (id := im) (off := 0 + (i + j) * 1) (x := a1) (s36.at 1 rfl) (by rw [Nat.zero_add, Nat.mul_one]; exact ha0) (by kernel_rfl)) ?_
      refine Sd.go (L := [14, 15, 16, 17, 2, 3, 4, 5, 18, 19]) [12, 13] (by kernel_rfl) ?_
      refine Sd.still (some 50) (by kernel_rfl) (by kernel_rfl) (by kernel_rfl) (jIdx (id := im) (off := 0) (sz := 1) (len := len) (k := i) (by omega) (by kernel_rfl)) ?_
      refine Sd.read (some 51) (im) (by kernel_rfl) (by kernel_rfl) (by kernel_rfl) trivial (jLoad (id := im) (off := 0 + i * 1) (x := b1) (s36.at 1 rfl) (by rw [Nat.zero_add, Nat.mul_one]; exact hb0) (by kernel_rfl)) ?_
      refine Sd.still (some 52) (by kernel_rfl) (by kernel_rfl) (by kernel_rfl) (jIdx (id := im) (off := 0) (sz := 1) (len := len) (k := i) (by omega) (by kernel_rfl)) ?_
      obtain ⟨H37, s38, J39⟩ := jSet (off := 0 + i * 1) (new := [a1]) (cs' := fs.set i a1) s36 1 rfl (by simp; omega) (splice_at (by omega))
      have s38 : Sep Y H37 (n32) [(bx, .cells [.int .i64 ((i : Nat) : Int)] true), (im, .cells (fs.set i a1) false), (di, .cells (gs) false)] := s38
      refine Sd.eff none (by kernel_rfl) (by kernel_rfl) (J39 _ _ (by kernel_rfl)) ⟨.inl (by kernel_rfl), .inl (by kernel_rfl), trivial⟩ ?_
      refine Sd.go (L := [5, 18, 19]) [2, 3, 4] (by kernel_rfl) ?_
      refine Sd.still (some 41) (by kernel_rfl) (by kernel_rfl) (by kernel_rfl) (jBin (b_addN (i) (j) (by omega)) (by kernel_rfl)) ?_
      refine Sd.still (some 53) (by kernel_rfl) (by kernel_rfl) (by kernel_rfl) (jIdx (id := im) (off := 0) (sz := 1) (len := len) (k := i + j) (by omega) (by kernel_rfl)) ?_
      obtain ⟨H40, s41, J42⟩ := jSet (off := 0 + (i + j) * 1) (new := [b1]) (cs' := (fs.set i a1).set (i + j) b1) s38 1 rfl (by simp; omega) (splice_at (by simp; omega))
      have s41 : Sep Y H40 (n32) [(bx, .cells [.int .i64 ((i : Nat) : Int)] true), (im, .cells ((fs.set i a1).set (i + j) b1) false), (di, .cells (gs) false)] := s41
      refine Sd.eff none (by kernel_rfl) (by kernel_rfl) (J42 _ _ (by kernel_rfl)) ⟨.inl (by kernel_rfl), .inl (by kernel_rfl), trivial⟩ ?_
      refine Sd.done ?_
      show To Tryz.prog 93 [1, 1, 1, 0, 0, 1, 0, 0, 1, 0, 1, 1] _ _ _ _
      obtain ⟨a2, ha2, ha3⟩ := hB.row (i := i + j) (by rw [hd.1]; exact hj)
      obtain ⟨b2, hb2, hb3⟩ := hB.row (i := i) (by rw [hd.1]; exact hiN)
      refine To.seq (by kernel_rfl) ?_
      refine To.draw [0, 1, 6, 7, 8, 9, 10, 11, 12, 13, 14, 15, 16, 17, 2, 3, 4, 5, 18, 19] progOk (by kernel_rfl) (by kernel_rfl) ?_
      refine Sd.go (L := [9, 10, 11, 12, 13, 14, 15, 16, 17, 2, 3, 4, 5, 18, 19]) [0, 1, 6, 7, 8] (by kernel_rfl) ?_
      refine Sd.still (some 63) (by kernel_rfl) (by kernel_rfl) (by kernel_rfl) (jBin (b_addN (i) (j) (by omega)) (by kernel_rfl)) ?_
      refine Sd.still (some 64) (by kernel_rfl) (by kernel_rfl) (by kernel_rfl) (jIdx (id := di) (off := 0) (sz := 1) (len := len) (k := i + j) (by omega) (by kernel_rfl)) ?_
      refine Sd.read (some 65) (di) (by kernel_rfl) (by kernel_rfl) (by kernel_rfl) trivial (jLoad (id := di) (off := 0 + (i + j) * 1) (x := a2) (s41.at 2 rfl) (by rw [Nat.zero_add, Nat.mul_one]; exact ha2) (by kernel_rfl)) ?_
      refine Sd.go (L := [14, 15, 16, 17, 2, 3, 4, 5, 18, 19]) [12, 13] (by kernel_rfl) ?_
      refine Sd.still (some 68) (by kernel_rfl) (by kernel_rfl) (by kernel_rfl) (jIdx (id := di) (off := 0) (sz := 1) (len := len) (k := i) (by omega) (by kernel_rfl)) ?_
      refine Sd.read (some 69) (di) (by kernel_rfl) (by kernel_rfl) (by kernel_rfl) trivial (jLoad (id := di) (off := 0 + i * 1) (x := b2) (s41.at 2 rfl) (by rw [Nat.zero_add, Nat.mul_one]; exact hb2) (by kernel_rfl)) ?_
      refine Sd.still (some 70) (by kernel_rfl) (by kernel_rfl) (by kernel_rfl) (jIdx (id := di) (off := 0) (sz := 1) (len := len) (k := i) (by omega) (by kernel_rfl)) ?_
      obtain ⟨H43, s44, J45⟩ := jSet (off := 0 + i * 1) (new := [a2]) (cs' := gs.set i a2) s41 2 rfl (by simp; omega) (splice_at (by omega))
      have s44 : Sep Y H43 (n32) [(bx, .cells [.int .i64 ((i : Nat) : Int)] true), (im, .cells ((fs.set i a1).set (i + j) b1) false), (di, .cells (gs.set i a2) false)] := s44
      refine Sd.eff none (by kernel_rfl) (by kernel_rfl) (J45 _ _ (by kernel_rfl)) ⟨.inl (by kernel_rfl), .inl (by kernel_rfl), trivial⟩ ?_
      refine Sd.go (L := [5, 18, 19]) [2, 3, 4] (by kernel_rfl) ?_
      refine Sd.still (some 59) (by kernel_rfl) (by kernel_rfl) (by kernel_rfl) (jBin (b_addN (i) (j) (by omega)) (by kernel_rfl)) ?_
      refine Sd.still (some 71) (by kernel_rfl) (by kernel_rfl) (by kernel_rfl) (jIdx (id := di) (off := 0) (sz := 1) (len := len) (k := i + j) (by omega) (by kernel_rfl)) ?_
      obtain ⟨H46, s47, J48⟩ := jSet (off := 0 + (i + j) * 1) (new := [b2]) (cs' := (gs.set i a2).set (i + j) b2) s44 2 rfl (by simp; omega) (splice_at (by simp; omega))
      have s47 : Sep Y H46 (n32) [(bx, .cells [.int .i64 ((i : Nat) : Int)] true), (im, .cells ((fs.set i a1).set (i + j) b1) false), (di, .cells ((gs.set i a2).set (i + j) b2) false)] := s47
      refine Sd.eff none (by kernel_rfl) (by kernel_rfl) (J48 _ _ (by kernel_rfl)) ⟨.inl (by kernel_rfl), .inl (by kernel_rfl), trivial⟩ ?_
      refine Sd.done ?_
      show To Tryz.prog 93 [1, 1, 1, 1, 0, 0, 1, 0, 0, 1, 0, 1, 1] _ _ _ _
      have hok1 : (Tn.sw i (i + j)).ok len := ⟨hiN, hj⟩
      have hA : All2 (RowV Y) ((fs.set i a1).set (i + j) b1) (runs (ts ++ [Tn.sw i (i + j)]) ms) := by rw [runs_snoc]; exact (hA.set i ha1).set (i + j) hb1
      have hB : All2 (RowV Y) ((gs.set i a2).set (i + j) b2) (runs (ts ++ [Tn.sw i (i + j)]) ds) := by rw [runs_snoc]; exact (hB.set i ha3).set (i + j) hb3
      have hx0 : colN (runs (ts ++ [Tn.sw i (i + j)]) ms) i i ≠ 0 := by rw [runs_snoc, colN_sw hm.1 hiN hj]; by_cases e : i = i + j; rw [if_pos e]; rw [← e] at hpj; exact hpj; rw [if_neg e, if_pos rfl]; exact hpj
      have hU : Un len i (runs (ts ++ [Tn.sw i (i + j)]) ms) := by rw [runs_snoc]; exact hU.sw hm (by omega) hj
      have hts := oks_snoc hts hok1
      generalize (fs.set i a1).set (i + j) b1 = fs at *
      generalize (gs.set i a2).set (i + j) b2 = gs at *
      generalize ts ++ [Tn.sw i (i + j)] = ts at *
      have hm := hms.runs hts
      have hd := hds.runs hts
      have hlf : fs.length = len := by have := hA.length; rw [hm.1] at this; exact this.symm
      have hlg : gs.length = len := by have := hB.length; rw [hd.1] at this; exact this.symm
      obtain ⟨i1, hi0, hi1⟩ := hA.row (i := i) (by rw [hm.1]; exact hiN)
      obtain ⟨i2, hi3, hi2⟩ := hB.row (i := i) (by rw [hd.1]; exact hiN)
      obtain ⟨qi, qo, qc, rfl, hqat⟩ := hi1.at (k := i) (by rw [(hm.row hiN).1]; exact hiW)
      have hql : (rowN (runs ts ms) i).length = W := (hm.row hiN).1
      refine To.seq (by kernel_rfl) ?_
      refine To.draw [0, 1, 2, 3, 4, 5, 6, 7, 8] progOk (by kernel_rfl) (by kernel_rfl) ?_
      refine Sd.go (L := [2, 3, 4, 5, 6, 7, 8]) [0, 1] (by kernel_rfl) ?_
      refine Sd.still (some 74) (by kernel_rfl) (by kernel_rfl) (by kernel_rfl) (jIdx (id := im) (off := 0) (sz := 1) (len := len) (k := i) (by omega) (by kernel_rfl)) ?_
      refine Sd.read (some 75) (im) (by kernel_rfl) (by kernel_rfl) (by kernel_rfl) trivial (jLoad (id := im) (off := 0 + i * 1) (x := .sl (qi) (qo) 1 ((rowN (runs ts ms) i).length) qc) (s47.at 1 rfl) (by rw [Nat.zero_add, Nat.mul_one]; exact hi0) (by kernel_rfl)) ?_
      refine Sd.read (some 76) (bx) (by kernel_rfl) (by kernel_rfl) (by kernel_rfl) trivial (jLoad (off := 0) (x := .int .i64 ((i : Nat) : Int)) (s47.at 0 rfl) (by kernel_rfl) (by kernel_rfl)) ?_
      refine Sd.still (some 77) (by kernel_rfl) (by kernel_rfl) (by kernel_rfl) (jIdx (id := qi) (off := qo) (sz := 1) (len := (rowN (runs ts ms) i).length) (k := i) (by omega) (by kernel_rfl)) ?_
      refine Sd.read (some 78) (qi) (by kernel_rfl) (by kernel_rfl) (by kernel_rfl) trivial (jLoadX (id := qi) (off := qo + i * 1) (x := .int .u8 ((colN (runs ts ms) i i : Nat) : Int)) (by rw [Nat.mul_one]; exact hqat.mono (s47.mono _)) (by kernel_rfl)) ?_
      refine Sd.eff (some 79) (by kernel_rfl) (by kernel_rfl) (jCall (by kernel_rfl) (inv_any (colN (runs ts ms) i i) (colN_lt hm hiN) H46 (n32)) (by kernel_rfl)) ⟨.inl (by kernel_rfl), .inl (by kernel_rfl), .inl (by kernel_rfl), trivial⟩ ?_
      refine Sd.go (L := []) [8] (by kernel_rfl) ?_
      refine Sd.done ?_
      show To Tryz.prog 93 [1, 1, 1, 1, 1, 0, 0, 1, 0, 0, 1, 0, 1, 1] _ _ _ _
      refine To.seq (by kernel_rfl) ?_
      refine To.draw [4, 5, 6, 7, 8, 9, 10, 11, 12, 13, 14, 15, 0, 1, 16, 17, 2, 3, 18, 19] progOk (by kernel_rfl) (by kernel_rfl) ?_
      refine Sd.go (L := [7, 8, 9, 10, 11, 12, 13, 14, 15, 0, 1, 16, 17, 2, 3, 18, 19]) [4, 5, 6] (by kernel_rfl) ?_
      refine Sd.still (some 87) (by kernel_rfl) (by kernel_rfl) (by kernel_rfl) (jIdx (id := im) (off := 0) (sz := 1) (len := len) (k := i) (by omega) (by kernel_rfl)) ?_
      refine Sd.read (some 88) (im) (by kernel_rfl) (by kernel_rfl) (by kernel_rfl) trivial (jLoad (id := im) (off := 0 + i * 1) (x := .sl (qi) (qo) 1 ((rowN (runs ts ms) i).length) qc) (s47.at 1 rfl) (by rw [Nat.zero_add, Nat.mul_one]; exact hi0) (by kernel_rfl)) ?_
      obtain ⟨_, X49, n50, hc51, hm52, ht53, ⟨z1, rfl, hz1⟩⟩ := (scale_pure (c := iv (colN (runs ts ms) i i)) _ hi1 (by rw [(hm.row hiN).1]; omega) (iv_lt (colN_lt hm hiN)) s47.topX : PureC 141 [vf (.int .u8 ((iv (colN (runs ts ms) i i) : Nat) : Int)), vf (.sl (qi) (qo) 1 ((rowN (runs ts ms) i).length) qc)] Y (n32) _)
      obtain ⟨H54, hc55, s56⟩ := s47.call hc51 hm52 ht53
      have hm0 := hm0.tr hm52
      have hA := hA.mono fun _ _ q => q.mono hm52
      have hB := hB.mono fun _ _ q => q.mono hm52
      have hi1 := hi1.mono hm52
      have hi2 := hi2.mono hm52
      refine Sd.eff (some 89) (by kernel_rfl) (by kernel_rfl) (jCall (by kernel_rfl) hc55 (by kernel_rfl)) ⟨.inl (by kernel_rfl), trivial⟩ ?_
      refine Sd.go (L := [13, 14, 15, 0, 1, 16, 17, 2, 3, 18, 19]) [10, 11, 12] (by kernel_rfl) ?_
      refine Sd.still (some 93) (by kernel_rfl) (by kernel_rfl) (by kernel_rfl) (jIdx (id := di) (off := 0) (sz := 1) (len := len) (k := i) (by omega) (by kernel_rfl)) ?_
      refine Sd.read (some 94) (di) (by kernel_rfl) (by kernel_rfl) (by kernel_rfl) ⟨.inr ((s47.at 2 rfl).trans (s56.at 2 rfl).symm), trivial⟩ (jLoad (id := di) (off := 0 + i * 1) (x := i2) (s56.at 2 rfl) (by rw [Nat.zero_add, Nat.mul_one]; exact hi3) (by kernel_rfl)) ?_
      obtain ⟨_, X57, n58, hc59, hm60, ht61, ⟨z2, rfl, hz2⟩⟩ := (scale_pure (c := iv (colN (runs ts ms) i i)) _ hi2 (by rw [(hd.row hiN).1]; omega) (iv_lt (colN_lt hm hiN)) s56.topX : PureC 141 [vf (.int .u8 ((iv (colN (runs ts ms) i i) : Nat) : Int)), vf (i2)] X49 (n50) _)
      obtain ⟨H62, hc63, s64⟩ := s56.call hc59 hm60 ht61
      have hm0 := hm0.tr hm60
      have hA := hA.mono fun _ _ q => q.mono hm60
      have hB := hB.mono fun _ _ q => q.mono hm60
      have hi1 := hi1.mono hm60
      have hi2 := hi2.mono hm60
      have hz1 := hz1.mono hm60
      refine Sd.eff (some 95) (by kernel_rfl) (by kernel_rfl) (jCall (by kernel_rfl) hc63 (by kernel_rfl)) ⟨.inl (by kernel_rfl), .inl (by kernel_rfl), trivial⟩ ?_
      refine Sd.go (L := [16, 17, 2, 3, 18, 19]) [0, 1] (by kernel_rfl) ?_
      refine Sd.still (some 96) (by kernel_rfl) (by kernel_rfl) (by kernel_rfl) (jIdx (id := im) (off := 0) (sz := 1) (len := len) (k := i) (by omega) (by kernel_rfl)) ?_
      obtain ⟨H65, s66, J67⟩ := jSet (off := 0 + i * 1) (new := [z1]) (cs' := fs.set i z1) s64 1 rfl (by simp; omega) (splice_at (by omega))
      have s66 : Sep X57 H65 (n58) [(bx, .cells [.int .i64 ((i : Nat) : Int)] true), (im, .cells (fs.set i z1) false), (di, .cells (gs) false)] := s66
      refine Sd.eff none (by kernel_rfl) (by kernel_rfl) (J67 _ _ (by kernel_rfl)) ⟨.inl (by kernel_rfl), .inl (by kernel_rfl), trivial⟩ ?_
      refine Sd.go (L := [18, 19]) [2, 3] (by kernel_rfl) ?_
      refine Sd.still (some 97) (by kernel_rfl) (by kernel_rfl) (by kernel_rfl) (jIdx (id := di) (off := 0) (sz := 1) (len := len) (k := i) (by omega) (by kernel_rfl)) ?_
      obtain ⟨H68, s69, J70⟩ := jSet (off := 0 + i * 1) (new := [z2]) (cs' := gs.set i z2) s66 2 rfl (by simp; omega) (splice_at (by omega))
      have s69 : Sep X57 H68 (n58) [(bx, .cells [.int .i64 ((i : Nat) : Int)] true), (im, .cells (fs.set i z1) false), (di, .cells (gs.set i z2) false)] := s69
      refine Sd.eff none (by kernel_rfl) (by kernel_rfl) (J70 _ _ (by kernel_rfl)) ⟨.inl (by kernel_rfl), .inl (by kernel_rfl), trivial⟩ ?_
      refine Sd.done ?_
      show To Tryz.prog 93 [1, 1, 1, 1, 1, 1, 0, 0, 1, 0, 0, 1, 0, 1, 1] _ _ _ _
      have hok2 : (Tn.sc i (iv (colN (runs ts ms) i i))).ok len := ⟨hiN, iv_lt (colN_lt hm hiN), iv_ne (colN_lt hm hiN) hx0⟩
      have hA : All2 (RowV X57) (fs.set i z1) (runs (ts ++ [Tn.sc i (iv (colN (runs ts ms) i i))]) ms) := by rw [runs_snoc]; exact hA.set i hz1
      have hB : All2 (RowV X57) (gs.set i z2) (runs (ts ++ [Tn.sc i (iv (colN (runs ts ms) i i))]) ds) := by rw [runs_snoc]; exact hB.set i hz2
      have hZ : Clr i 0 (runs (ts ++ [Tn.sc i (iv (colN (runs ts ms) i i))]) ms) := ⟨by rw [runs_snoc, colN_sc hm.1 hiN, if_pos rfl, gm_comm (iv_lt (colN_lt hm hiN)) (colN_lt hm hiN)]; exact (iv_ok (colN_lt hm hiN) hx0).1, fun r h => by omega⟩
      have hU : Un len i (runs (ts ++ [Tn.sc i (iv (colN (runs ts ms) i i))]) ms) := by rw [runs_snoc]; exact hU.sc hm hiN
      have hts := oks_snoc hts hok2
      refine To.seq (by kernel_rfl) ?_
      refine To.seq (by kernel_rfl) ?_
      refine To.region (by kernel_rfl) ?_
      refine Sg.go 1 (by kernel_rfl) ?_
      refine Sg.op (some 99) (by kernel_rfl) (jLen (l := len) (by kernel_rfl)) ?_
      refine Sg.go 1 (by kernel_rfl) ?_
      refine Sg.done (by kernel_rfl) ?_
      show To Tryz.prog 93 [1, 0, 1, 1, 1, 1, 1, 1, 0, 0, 1, 0, 0, 1, 0, 1, 1] _ _ _ _
      refine To.block 2 (by kernel_rfl) ?_
      refine To.loop (by kernel_rfl) ?_
      refine ToL.for (len) (fun q A H n => ∃ (Y : Heap) (ts : List Tn) (fs : List F) (gs : List F), AtL A [(0, vf (.int .i64 ((W : Nat) : Int))), (1, vf (.sl (im) (0) 1 (len) none)), (2, vf (.sl (di) (0) 1 (len) none)), (3, vf (.bool false)), (9, vf (.int .i64 ((i : Nat) : Int))), (10, vf (.ptr (bx) (0))), (99, vf (.int .i64 ((len : Nat) : Int))), (100, vf (.int .i64 ((q : Nat) : Int)))] ∧ Sep Y H n [(bx, .cells [.int .i64 ((i : Nat) : Int)] true), (im, .cells (fs) false), (di, .cells (gs) false)] ∧ Mono X Y ∧ All2 (RowV Y) fs (runs ts ms) ∧ All2 (RowV Y) gs (runs ts ds) ∧ oks len ts ∧ Un len i (runs ts ms) ∧ Clr i q (runs ts ms)) ⟨X57, _, _, _, getsL_spec (ts := [0, 1, 2, 3, 9, 10, 99, 100]) (by kernel_rfl), s69, (hm0), (hA), (hB), (hts), (hU), (hZ)⟩ (fun q A H n hi hI => ?_) (fun A H n hI => ?_)
      · skip
        obtain ⟨Y, ts, fs, gs, hT, s71, hm0, hA, hB, hts, hU, hZ⟩ := hI
        refine To.keep _ ?_ hT.sub
        have hm := hms.runs hts
        have hd := hds.runs hts
        have hlf : fs.length = len := by have := hA.length; rw [hm.1] at this; exact this.symm
        have hlg : gs.length = len := by have := hB.length; rw [hd.1] at this; exact this.symm
        obtain ⟨q1, hq0, hq1⟩ := hA.row (i := q) (by rw [hm.1]; exact hi)
        obtain ⟨i1, hi0, hi1⟩ := hA.row (i := i) (by rw [hm.1]; exact hiN)
        obtain ⟨q2, hq3, hq2⟩ := hB.row (i := q) (by rw [hd.1]; exact hi)
        obtain ⟨i2, hi3, hi2⟩ := hB.row (i := i) (by rw [hd.1]; exact hiN)
        obtain ⟨qi, qo, qc, rfl, hqat⟩ := hq1.at (k := i) (by rw [(hm.row hi).1]; exact hiW)
        have hql : (rowN (runs ts ms) q).length = W := (hm.row hi).1
        refine To.seq (by kernel_rfl) ?_
        refine To.region (by kernel_rfl) ?_
        refine Sg.op (some 101) (by kernel_rfl) (jBin (b_lssT .i64 (x := ((q : Nat) : Int)) (y := ((len : Nat) : Int)) (by omega)) (by kernel_rfl)) ?_
        refine Sg.done (by kernel_rfl) ?_
        show To Tryz.prog 93 [1, 0, 0, 1, 0, 1, 1, 1, 1, 1, 1, 0, 0, 1, 0, 0, 1, 0, 1, 1] _ _ _ _
        refine To.seq (by kernel_rfl) ?_
        refine To.ifT (by kernel_rfl) (by kernel_rfl) ?_
        refine To.skip (by kernel_rfl) ?_
        show To Tryz.prog 93 [1, 1, 0, 0, 1, 0, 1, 1, 1, 1, 1, 1, 0, 0, 1, 0, 0, 1, 0, 1, 1] _ _ _ _
        refine To.seq (by kernel_rfl) ?_
        refine To.block 3 (by kernel_rfl) ?_
        refine To.seq (by kernel_rfl) ?_
        refine To.region (by kernel_rfl) ?_
        refine Sg.go 2 (by kernel_rfl) ?_
        refine Sg.done (by kernel_rfl) ?_
        show To Tryz.prog 93 [1, 0, 0, 1, 1, 0, 0, 1, 0, 1, 1, 1, 1, 1, 1, 0, 0, 1, 0, 0, 1, 0, 1, 1] _ _ _ _
        refine To.seq (by kernel_rfl) ?_
        refine To.draw [0, 1, 2, 3, 4, 5, 6, 7] progOk (by kernel_rfl) (by kernel_rfl) ?_
        refine Sd.go (L := [2, 3, 4, 5, 6, 7]) [0, 1] (by kernel_rfl) ?_
        refine Sd.still (some 105) (by kernel_rfl) (by kernel_rfl) (by kernel_rfl) (jIdx (id := im) (off := 0) (sz := 1) (len := len) (k := q) (by omega) (by kernel_rfl)) ?_
        refine Sd.read (some 106) (im) (by kernel_rfl) (by kernel_rfl) (by kernel_rfl) trivial (jLoad (id := im) (off := 0 + q * 1) (x := .sl (qi) (qo) 1 ((rowN (runs ts ms) q).length) qc) (s71.at 1 rfl) (by rw [Nat.zero_add, Nat.mul_one]; exact hq0) (by kernel_rfl)) ?_
        refine Sd.read (some 107) (bx) (by kernel_rfl) (by kernel_rfl) (by kernel_rfl) trivial (jLoad (off := 0) (x := .int .i64 ((i : Nat) : Int)) (s71.at 0 rfl) (by kernel_rfl) (by kernel_rfl)) ?_
        refine Sd.still (some 108) (by kernel_rfl) (by kernel_rfl) (by kernel_rfl) (jIdx (id := qi) (off := qo) (sz := 1) (len := (rowN (runs ts ms) q).length) (k := i) (by omega) (by kernel_rfl)) ?_
        refine Sd.read (some 109) (qi) (by kernel_rfl) (by kernel_rfl) (by kernel_rfl) trivial (jLoadX (id := qi) (off := qo + i * 1) (x := .int .u8 ((colN (runs ts ms) q i : Nat) : Int)) (by rw [Nat.mul_one]; exact hqat.mono (s71.mono _)) (by kernel_rfl)) ?_
        refine Sd.go (L := []) [7] (by kernel_rfl) ?_
        refine Sd.done ?_
        show To Tryz.prog 93 [1, 1, 0, 0, 1, 1, 0, 0, 1, 0, 1, 1, 1, 1, 1, 1, 0, 0, 1, 0, 0, 1, 0, 1, 1] _ _ _ _
        by_cases hqi : q = i
        · skip
          refine To.seq (by kernel_rfl) ?_
          refine To.region (by kernel_rfl) ?_
          refine Sg.go 2 (by kernel_rfl) ?_
          refine Sg.op (some 112) (by kernel_rfl) (jBin (b_neqF .i64 (x := ((q : Nat) : Int)) (y := ((i : Nat) : Int)) (by omega)) (by kernel_rfl)) ?_
          refine Sg.go 4 (by kernel_rfl) ?_
          refine Sg.done (by kernel_rfl) ?_
          show To Tryz.prog 93 [1, 1, 1, 0, 0, 1, 1, 0, 0, 1, 0, 1, 1, 1, 1, 1, 1, 0, 0, 1, 0, 0, 1, 0, 1, 1] _ _ _ _
          refine To.ifF (by kernel_rfl) (by kernel_rfl) ?_
          refine To.skip (by kernel_rfl) ?_
          show To Tryz.prog 93 [1, 1, 1, 0, 0, 1, 0, 1, 1, 1, 1, 1, 1, 0, 0, 1, 0, 0, 1, 0, 1, 1] _ _ _ _
          refine To.region (by kernel_rfl) ?_
          refine Sg.op (some 143) (by kernel_rfl) (jBin (b_addN (q) (1) (by omega)) (by kernel_rfl)) ?_
          refine Sg.go 1 (by kernel_rfl) ?_
          refine Sg.done (by kernel_rfl) ?_
          exact .inl ⟨rfl, Y, _, _, _, getsL_spec (ts := [0, 1, 2, 3, 9, 10, 99, 100]) (by kernel_rfl), s71, (hm0), (hA), (hB), (hts), (hU), (hZ.skip (.inl hqi))⟩
        · skip
          by_cases hq : colN (runs ts ms) q i = 0
          · skip
            refine To.seq (by kernel_rfl) ?_
            refine To.region (by kernel_rfl) ?_
            refine Sg.go 2 (by kernel_rfl) ?_
            refine Sg.op (some 112) (by kernel_rfl) (jBin (b_neqT .i64 (x := ((q : Nat) : Int)) (y := ((i : Nat) : Int)) (by omega)) (by kernel_rfl)) ?_
            refine Sg.go 2 (by kernel_rfl) ?_
            refine Sg.op (some 115) (by kernel_rfl) (jBin (b_neqF .u8 (x := ((colN (runs ts ms) q i : Nat) : Int)) (y := (0 : Int)) (by omega)) (by kernel_rfl)) ?_
            refine Sg.go 1 (by kernel_rfl) ?_
            refine Sg.done (by kernel_rfl) ?_
            show To Tryz.prog 93 [1, 1, 1, 0, 0, 1, 1, 0, 0, 1, 0, 1, 1, 1, 1, 1, 1, 0, 0, 1, 0, 0, 1, 0, 1, 1] _ _ _ _
            refine To.ifF (by kernel_rfl) (by kernel_rfl) ?_
            refine To.skip (by kernel_rfl) ?_
            show To Tryz.prog 93 [1, 1, 1, 0, 0, 1, 0, 1, 1, 1, 1, 1, 1, 0, 0, 1, 0, 0, 1, 0, 1, 1] _ _ _ _
            refine To.region (by kernel_rfl) ?_
            refine Sg.op (some 143) (by kernel_rfl) (jBin (b_addN (q) (1) (by omega)) (by kernel_rfl)) ?_
            refine Sg.go 1 (by kernel_rfl) ?_
            refine Sg.done (by kernel_rfl) ?_
            exact .inl ⟨rfl, Y, _, _, _, getsL_spec (ts := [0, 1, 2, 3, 9, 10, 99, 100]) (by kernel_rfl), s71, (hm0), (hA), (hB), (hts), (hU), (hZ.skip (.inr hq))⟩
          · skip
            refine To.seq (by kernel_rfl) ?_
            refine To.region (by kernel_rfl) ?_
            refine Sg.go 2 (by kernel_rfl) ?_
            refine Sg.op (some 112) (by kernel_rfl) (jBin (b_neqT .i64 (x := ((q : Nat) : Int)) (y := ((i : Nat) : Int)) (by omega)) (by kernel_rfl)) ?_
            refine Sg.go 2 (by kernel_rfl) ?_
            refine Sg.op (some 115) (by kernel_rfl) (jBin (b_neqT .u8 (x := ((colN (runs ts ms) q i : Nat) : Int)) (y := (0 : Int)) (by omega)) (by kernel_rfl)) ?_
            refine Sg.go 1 (by kernel_rfl) ?_
            refine Sg.done (by kernel_rfl) ?_
            show To Tryz.prog 93 [1, 1, 1, 0, 0, 1, 1, 0, 0, 1, 0, 1, 1, 1, 1, 1, 1, 0, 0, 1, 0, 0, 1, 0, 1, 1] _ _ _ _
            refine To.ifT (by kernel_rfl) (by kernel_rfl) ?_
            refine To.draw [4, 5, 6, 7, 8, 9, 10, 11, 12, 13, 14, 15, 16, 17, 18, 19, 20, 21, 22, 23, 0, 1, 24, 25, 2, 3, 26, 27] progOk (by kernel_rfl) (by kernel_rfl) ?_
            refine Sd.go (L := [6, 7, 8, 9, 10, 11, 12, 13, 14, 15, 16, 17, 18, 19, 20, 21, 22, 23, 0, 1, 24, 25, 2, 3, 26, 27]) [4, 5] (by kernel_rfl) ?_
            refine Sd.still (some 123) (by kernel_rfl) (by kernel_rfl) (by kernel_rfl) (jIdx (id := im) (off := 0) (sz := 1) (len := len) (k := q) (by omega) (by kernel_rfl)) ?_
            refine Sd.read (some 124) (im) (by kernel_rfl) (by kernel_rfl) (by kernel_rfl) trivial (jLoad (id := im) (off := 0 + q * 1) (x := .sl (qi) (qo) 1 ((rowN (runs ts ms) q).length) qc) (s71.at 1 rfl) (by rw [Nat.zero_add, Nat.mul_one]; exact hq0) (by kernel_rfl)) ?_
            refine Sd.go (L := [11, 12, 13, 14, 15, 16, 17, 18, 19, 20, 21, 22, 23, 0, 1, 24, 25, 2, 3, 26, 27]) [8, 9, 10] (by kernel_rfl) ?_
            refine Sd.still (some 128) (by kernel_rfl) (by kernel_rfl) (by kernel_rfl) (jIdx (id := im) (off := 0) (sz := 1) (len := len) (k := i) (by omega) (by kernel_rfl)) ?_
            refine Sd.read (some 129) (im) (by kernel_rfl) (by kernel_rfl) (by kernel_rfl) trivial (jLoad (id := im) (off := 0 + i * 1) (x := i1) (s71.at 1 rfl) (by rw [Nat.zero_add, Nat.mul_one]; exact hi0) (by kernel_rfl)) ?_
            obtain ⟨_, X72, n73, hc74, hm75, ht76, ⟨z1, rfl, hz1⟩⟩ := (without_pure (c := colN (runs ts ms) q i) _ _ hq1 hi1 (by rw [(hm.row hiN).1]; omega) (by rw [(hm.row hiN).1, (hm.row hi).1]) (by rw [(hm.row hi).1]; exact hW) (colN_lt hm hi) s71.topX : PureC 142 [vf (.sl (qi) (qo) 1 ((rowN (runs ts ms) q).length) qc), vf (.int .u8 ((colN (runs ts ms) q i : Nat) : Int)), vf (i1)] Y (n) _)
            obtain ⟨H77, hc78, s79⟩ := s71.call hc74 hm75 ht76
            have hm0 := hm0.tr hm75
            have hA := hA.mono fun _ _ q => q.mono hm75
            have hB := hB.mono fun _ _ q => q.mono hm75
            have hq1 := hq1.mono hm75
            have hq2 := hq2.mono hm75
            have hi1 := hi1.mono hm75
            have hi2 := hi2.mono hm75
            refine Sd.eff (some 130) (by kernel_rfl) (by kernel_rfl) (jCall (by kernel_rfl) hc78 (by kernel_rfl)) ⟨.inl (by kernel_rfl), .inl (by kernel_rfl), trivial⟩ ?_
            refine Sd.go (L := [16, 17, 18, 19, 20, 21, 22, 23, 0, 1, 24, 25, 2, 3, 26, 27]) [14, 15] (by kernel_rfl) ?_
            refine Sd.still (some 133) (by kernel_rfl) (by kernel_rfl) (by kernel_rfl) (jIdx (id := di) (off := 0) (sz := 1) (len := len) (k := q) (by omega) (by kernel_rfl)) ?_
            refine Sd.read (some 134) (di) (by kernel_rfl) (by kernel_rfl) (by kernel_rfl) ⟨.inr ((s71.at 2 rfl).trans (s79.at 2 rfl).symm), trivial⟩ (jLoad (id := di) (off := 0 + q * 1) (x := q2) (s79.at 2 rfl) (by rw [Nat.zero_add, Nat.mul_one]; exact hq3) (by kernel_rfl)) ?_
            refine Sd.go (L := [21, 22, 23, 0, 1, 24, 25, 2, 3, 26, 27]) [18, 19, 20] (by kernel_rfl) ?_
            refine Sd.still (some 138) (by kernel_rfl) (by kernel_rfl) (by kernel_rfl) (jIdx (id := di) (off := 0) (sz := 1) (len := len) (k := i) (by omega) (by kernel_rfl)) ?_
            refine Sd.read (some 139) (di) (by kernel_rfl) (by kernel_rfl) (by kernel_rfl) ⟨.inr ((s71.at 2 rfl).trans (s79.at 2 rfl).symm), trivial⟩ (jLoad (id := di) (off := 0 + i * 1) (x := i2) (s79.at 2 rfl) (by rw [Nat.zero_add, Nat.mul_one]; exact hi3) (by kernel_rfl)) ?_
            obtain ⟨_, X80, n81, hc82, hm83, ht84, ⟨z2, rfl, hz2⟩⟩ := (without_pure (c := colN (runs ts ms) q i) _ _ hq2 hi2 (by rw [(hd.row hiN).1]; omega) (by rw [(hd.row hiN).1, (hd.row hi).1]) (by rw [(hd.row hi).1]; exact hN) (colN_lt hm hi) s79.topX : PureC 142 [vf (q2), vf (.int .u8 ((colN (runs ts ms) q i : Nat) : Int)), vf (i2)] X72 (n73) _)
            obtain ⟨H85, hc86, s87⟩ := s79.call hc82 hm83 ht84
            have hm0 := hm0.tr hm83
            have hA := hA.mono fun _ _ q => q.mono hm83
            have hB := hB.mono fun _ _ q => q.mono hm83
            have hq1 := hq1.mono hm83
            have hq2 := hq2.mono hm83
            have hi1 := hi1.mono hm83
            have hi2 := hi2.mono hm83
            have hz1 := hz1.mono hm83
            refine Sd.eff (some 140) (by kernel_rfl) (by kernel_rfl) (jCall (by kernel_rfl) hc86 (by kernel_rfl)) ⟨.inl (by kernel_rfl), .inl (by kernel_rfl), .inl (by kernel_rfl), .inl (by kernel_rfl), trivial⟩ ?_
            refine Sd.go (L := [24, 25, 2, 3, 26, 27]) [0, 1] (by kernel_rfl) ?_
            refine Sd.still (some 141) (by kernel_rfl) (by kernel_rfl) (by kernel_rfl) (jIdx (id := im) (off := 0) (sz := 1) (len := len) (k := q) (by omega) (by kernel_rfl)) ?_
            obtain ⟨H88, s89, J90⟩ := jSet (off := 0 + q * 1) (new := [z1]) (cs' := fs.set q z1) s87 1 rfl (by simp; omega) (splice_at (by omega))
            have s89 : Sep X80 H88 (n81) [(bx, .cells [.int .i64 ((i : Nat) : Int)] true), (im, .cells (fs.set q z1) false), (di, .cells (gs) false)] := s89
            refine Sd.eff none (by kernel_rfl) (by kernel_rfl) (J90 _ _ (by kernel_rfl)) ⟨.inl (by kernel_rfl), .inl (by kernel_rfl), .inl (by kernel_rfl), .inl (by kernel_rfl), trivial⟩ ?_
            refine Sd.go (L := [26, 27]) [2, 3] (by kernel_rfl) ?_
            refine Sd.still (some 142) (by kernel_rfl) (by kernel_rfl) (by kernel_rfl) (jIdx (id := di) (off := 0) (sz := 1) (len := len) (k := q) (by omega) (by kernel_rfl)) ?_
            obtain ⟨H91, s92, J93⟩ := jSet (off := 0 + q * 1) (new := [z2]) (cs' := gs.set q z2) s89 2 rfl (by simp; omega) (splice_at (by omega))
            have s92 : Sep X80 H91 (n81) [(bx, .cells [.int .i64 ((i : Nat) : Int)] true), (im, .cells (fs.set q z1) false), (di, .cells (gs.set q z2) false)] := s92
            refine Sd.eff none (by kernel_rfl) (by kernel_rfl) (J93 _ _ (by kernel_rfl)) ⟨.inl (by kernel_rfl), .inl (by kernel_rfl), .inl (by kernel_rfl), .inl (by kernel_rfl), trivial⟩ ?_
            refine Sd.done ?_
            show To Tryz.prog 93 [1, 1, 1, 0, 0, 1, 0, 1, 1, 1, 1, 1, 1, 0, 0, 1, 0, 0, 1, 0, 1, 1] _ _ _ _
            have hok : (Tn.ad q (colN (runs ts ms) q i) i).ok len := ⟨hi, hiN, hqi, colN_lt hm hi⟩
            refine To.region (by kernel_rfl) ?_
            refine Sg.op (some 143) (by kernel_rfl) (jBin (b_addN (q) (1) (by omega)) (by kernel_rfl)) ?_
            refine Sg.go 1 (by kernel_rfl) ?_
            refine Sg.done (by kernel_rfl) ?_
            exact .inl ⟨rfl, X80, ts ++ [Tn.ad q (colN (runs ts ms) q i) i], _, _, getsL_spec (ts := [0, 1, 2, 3, 9, 10, 99, 100]) (by kernel_rfl), s92, (hm0), (by rw [runs_snoc]; exact hA.set q hz1), (by rw [runs_snoc]; exact hB.set q hz2), (oks_snoc hts hok), (by rw [runs_snoc]; exact hU.ad hm hiN hi (colN_lt hm hi)), (by rw [runs_snoc]; exact hZ.ad hm hiN hi hqi rfl)⟩
      · skip
        obtain ⟨Y, ts, fs, gs, hT, s94, hm0, hA, hB, hts, hU, hZ⟩ := hI
        refine To.keep _ ?_ hT.sub
        have hm := hms.runs hts
        have hd := hds.runs hts
        have hlf : fs.length = len := by have := hA.length; rw [hm.1] at this; exact this.symm
        have hlg : gs.length = len := by have := hB.length; rw [hd.1] at this; exact this.symm
        refine To.seq (by kernel_rfl) ?_
        refine To.region (by kernel_rfl) ?_
        refine Sg.op (some 101) (by kernel_rfl) (jBin (b_lssF .i64 (x := ((len : Nat) : Int)) (y := ((len : Nat) : Int)) (by simp)) (by kernel_rfl)) ?_
        refine Sg.done (by kernel_rfl) ?_
        show To Tryz.prog 93 [1, 0, 0, 1, 0, 1, 1, 1, 1, 1, 1, 0, 0, 1, 0, 0, 1, 0, 1, 1] _ _ _ _
        refine To.seq (by kernel_rfl) ?_
        refine To.ifF (by kernel_rfl) (by kernel_rfl) ?_
        refine To.exit 2 (by kernel_rfl) ?_
        refine ⟨by simp, ?_⟩
        show To Tryz.prog 93 [1, 1, 1, 1, 1, 1, 1, 0, 0, 1, 0, 0, 1, 0, 1, 1] _ _ _ _
        refine To.region (by kernel_rfl) ?_
        refine Sg.go 1 (by kernel_rfl) ?_
        refine Sg.op (some 145) (by kernel_rfl) (jBin (b_addN (i) (1) (by omega)) (by kernel_rfl)) ?_
        refine Sg.go 1 (by kernel_rfl) ?_
        refine Sg.done (by kernel_rfl) ?_
        show To Tryz.prog 93 [1, 1, 0, 0, 1, 0, 1, 1] _ _ _ _
        refine To.seq (by kernel_rfl) ?_
        refine To.seq (by kernel_rfl) ?_
        refine To.region (by kernel_rfl) ?_
        refine Sg.op (some 146) (by kernel_rfl) (jLoad (off := 0) (x := .int .i64 ((i : Nat) : Int)) (s94.at 0 rfl) (by kernel_rfl) (by kernel_rfl)) ?_
        refine Sg.done (by kernel_rfl) ?_
        show To Tryz.prog 93 [1, 0, 1, 1, 0, 0, 1, 0, 1, 1] _ _ _ _
        refine To.region (by kernel_rfl) ?_
        obtain ⟨H95, s96, J97⟩ := jNewM s94 (.cells [.int .i64 0] true)
        refine Sg.op (some 10) (by kernel_rfl) (J97 _ _ (vf (.ptr (n) (0))) (by kernel_rfl)) ?_
        obtain ⟨H98, s99, J100⟩ := jSet (off := 0) (new := [.int .i64 ((i : Nat) : Int)]) (cs' := [.int .i64 ((i : Nat) : Int)]) s96 0 rfl (by simp) rfl
        have s99 : Sep Y H98 (n + 1) [(n, .cells [.int .i64 ((i : Nat) : Int)] true), (bx, .cells [.int .i64 ((i : Nat) : Int)] true), (im, .cells (fs) false), (di, .cells (gs) false)] := s99
        refine Sg.op none (by kernel_rfl) (J100 _ _ (by kernel_rfl)) ?_
        refine Sg.done (by kernel_rfl) ?_
        show To Tryz.prog 93 [1, 1, 1, 0, 0, 1, 0, 1, 1] _ _ _ _
        refine To.region (by kernel_rfl) ?_
        refine Sg.op (some 24) (by kernel_rfl) (jLoad (off := 0) (x := .int .i64 ((i : Nat) : Int)) (s99.at 0 rfl) (by kernel_rfl) (by kernel_rfl)) ?_
        refine Sg.op (some 25) (by kernel_rfl) (jBin (b_addN (i) (1) (by omega)) (by kernel_rfl)) ?_
        obtain ⟨H101, s102, J103⟩ := jSet (off := 0) (new := [.int .i64 ((i + 1 : Nat) : Int)]) (cs' := [.int .i64 ((i + 1 : Nat) : Int)]) s99 0 rfl (by simp) rfl
        have s102 : Sep Y H101 (n + 1) [(n, .cells [.int .i64 ((i + 1 : Nat) : Int)] true), (bx, .cells [.int .i64 ((i : Nat) : Int)] true), (im, .cells (fs) false), (di, .cells (gs) false)] := s102
        refine Sg.op none (by kernel_rfl) (J103 _ _ (by kernel_rfl)) ?_
        refine Sg.done (by kernel_rfl) ?_
        exact .inl ⟨rfl, Y, _, _, _, _, getsL_spec (ts := [0, 1, 2, 3, 9, 10]) (by kernel_rfl), (s102.del 1), (hm0), (hA), (hB), (hts), (hU.next hZ)⟩
    · skip
      refine Sg.go 1 (by kernel_rfl) ?_
      obtain ⟨_, H104, n105, hc106, hm107, ht108, rfl⟩ := (PureC.same hc hmX ht2 : PureC 66 [vf (.sl (im) (0 + i * 1) 1 (len - i) none), .u (.fn 139 [.ptr (bx) (0)])] H (n) _)
      have s109 := s30.callH hc106 hm107 ht108
      refine Sg.op (some 30) (by kernel_rfl) (jCall (by kernel_rfl) hc106 (by kernel_rfl)) ?_
      refine Sg.go 1 (by kernel_rfl) ?_
      refine Sg.done (by kernel_rfl) ?_
      show To Tryz.prog 93 [1, 0, 0, 1, 0, 0, 1, 0, 1, 1] _ _ _ _
      refine To.seq (by kernel_rfl) ?_
      refine To.seq (by kernel_rfl) ?_
      refine To.region (by kernel_rfl) ?_
      refine Sg.go 1 (by kernel_rfl) ?_
      refine Sg.op (some 32) (by kernel_rfl) (jBin (b_lssT .i64 (x := (-1 : Int)) (y := (0 : Int)) (by omega)) (by kernel_rfl)) ?_
      refine Sg.done (by kernel_rfl) ?_
      show To Tryz.prog 93 [1, 0, 1, 0, 0, 1, 0, 0, 1, 0, 1, 1] _ _ _ _
      refine To.ifT (by kernel_rfl) (by kernel_rfl) ?_
      refine To.seq (by kernel_rfl) ?_
      refine To.seq (by kernel_rfl) ?_
      refine To.region (by kernel_rfl) ?_
      refine Sg.go 2 (by kernel_rfl) ?_
      refine Sg.done (by kernel_rfl) ?_
      show To Tryz.prog 93 [1, 0, 0, 1, 0, 1, 0, 0, 1, 0, 0, 1, 0, 1, 1] _ _ _ _
      refine To.ifT (by kernel_rfl) (by kernel_rfl) ?_
      refine To.seq (by kernel_rfl) ?_
      refine To.region (by kernel_rfl) ?_
      refine Sg.go 2 (by kernel_rfl) ?_
      refine Sg.done (by kernel_rfl) ?_
      show To Tryz.prog 93 [1, 0, 1, 0, 0, 1, 0, 1, 0, 0, 1, 0, 0, 1, 0, 1, 1] _ _ _ _
      refine To.ret (by kernel_rfl) ?_
      refine .inr ⟨by simp, ?_⟩
      exact ⟨.inr rfl, _, by kernel_rfl, i, Y, _, _, ts, rfl, s109.del 0, hm0, hA, hB, hts, by omega, by omega, hU, fun _ r hr1 hr2 => by have h3 := of_decide_eq_false (hn (r - i) (by simp; omega)); rw [show i + (r - i) = r by omega] at h3; exact Classical.byContradiction h3⟩
  · skip
    obtain ⟨Y, ts, fs, gs, bx, hT, s110, hm0, hA, hB, hts, hU⟩ := hI
    refine To.keep _ ?_ hT.sub
    have hm := hms.runs hts
    have hd := hds.runs hts
    have hlf : fs.length = len := by have := hA.length; rw [hm.1] at this; exact this.symm
    have hlg : gs.length = len := by have := hB.length; rw [hd.1] at this; exact this.symm
    rcases Nat.lt_or_ge len W with hlW | hlW
    · skip
      refine To.seq (by kernel_rfl) ?_
      refine To.seq (by kernel_rfl) ?_
      refine To.region (by kernel_rfl) ?_
      refine Sg.op (some 15) (by kernel_rfl) (jLoad (off := 0) (x := .int .i64 (((min W len) : Nat) : Int)) (s110.at 0 rfl) (by kernel_rfl) (by kernel_rfl)) ?_
      refine Sg.go 1 (by kernel_rfl) ?_
      refine Sg.op (some 17) (by kernel_rfl) (jBin (b_lssT .i64 (x := (((min W len) : Nat) : Int)) (y := ((W : Nat) : Int)) (by omega)) (by kernel_rfl)) ?_
      refine Sg.go 3 (by kernel_rfl) ?_
      refine Sg.op (some 21) (by kernel_rfl) (jLen (l := len) (by kernel_rfl)) ?_
      refine Sg.op (some 22) (by kernel_rfl) (jBin (b_lssF .i64 (x := (((min W len) : Nat) : Int)) (y := ((len : Nat) : Int)) (by omega)) (by kernel_rfl)) ?_
      refine Sg.go 1 (by kernel_rfl) ?_
      refine Sg.done (by kernel_rfl) ?_
      show To Tryz.prog 93 [1, 0, 0, 0, 1, 0, 1, 1] _ _ _ _
      refine To.ifF (by kernel_rfl) (by kernel_rfl) ?_
      refine To.exit 0 (by kernel_rfl) ?_
      refine ⟨by simp, ?_⟩
      show To Tryz.prog 93 [1, 1, 1] _ _ _ _
      refine To.seq (by kernel_rfl) ?_
      refine To.region (by kernel_rfl) ?_
      refine Sg.go 2 (by kernel_rfl) ?_
      refine Sg.done (by kernel_rfl) ?_
      show To Tryz.prog 93 [1, 1, 1, 1] _ _ _ _
      refine To.ret (by kernel_rfl) ?_
      exact ⟨.inr rfl, _, by kernel_rfl, min W len, Y, _, _, ts, rfl, s110.del 0, hm0, hA, hB, hts, by omega, by omega, hU, fun _ r _ _ => by omega⟩
    · skip
      refine To.seq (by kernel_rfl) ?_
      refine To.seq (by kernel_rfl) ?_
      refine To.region (by kernel_rfl) ?_
      refine Sg.op (some 15) (by kernel_rfl) (jLoad (off := 0) (x := .int .i64 (((min W len) : Nat) : Int)) (s110.at 0 rfl) (by kernel_rfl) (by kernel_rfl)) ?_
      refine Sg.go 1 (by kernel_rfl) ?_
      refine Sg.op (some 17) (by kernel_rfl) (jBin (b_lssF .i64 (x := (((min W len) : Nat) : Int)) (y := ((W : Nat) : Int)) (by omega)) (by kernel_rfl)) ?_
      refine Sg.go 6 (by kernel_rfl) ?_
      refine Sg.done (by kernel_rfl) ?_
      show To Tryz.prog 93 [1, 0, 0, 0, 1, 0, 1, 1] _ _ _ _
      refine To.ifF (by kernel_rfl) (by kernel_rfl) ?_
      refine To.exit 0 (by kernel_rfl) ?_
      refine ⟨by simp, ?_⟩
      show To Tryz.prog 93 [1, 1, 1] _ _ _ _
      refine To.seq (by kernel_rfl) ?_
      refine To.region (by kernel_rfl) ?_
      refine Sg.go 2 (by kernel_rfl) ?_
      refine Sg.done (by kernel_rfl) ?_
      show To Tryz.prog 93 [1, 1, 1, 1] _ _ _ _
      refine To.ret (by kernel_rfl) ?_
      exact ⟨.inr rfl, _, by kernel_rfl, min W len, Y, _, _, ts, rfl, s110.del 0, hm0, hA, hB, hts, by omega, by omega, hU, fun _ r _ _ => by omega⟩
end Go.Proofs.YtkimkgbppegkhaaGreat.Cm
