/- The clean machine's walks of solving (1): rows cut to a length. -/
import Derived.Test.YtkimkgbppegkhaaGreatSp
import Derived.Test.YtkimkgbppegkhaaGreatLa
namespace Go.Proofs.YtkimkgbppegkhaaGreat.Cm
open Go Go.RowKit Go.Proofs.YtkimkgbppegkhaaGreat.Gf
theorem row_all {H : Heap} {id sz len : Nat} {cs : List F} {ex : Bool} {cap : Option Nat} (h : H id = some (.cells cs ex)) (hl : len * sz = cs.length) : rowA H sz (.sl id 0 sz len cap) = some cs := by
  simp only [rowA, if_true, h]
  rw [if_pos (by omega), hl]
  simp
theorem RowsV.lenA {H : Heap} {f : F} {rs : List (List Nat)} (h : RowsV H f rs) : Cm.lenA f = some rs.length := by
  rcases h.cases with ⟨rfl, rfl⟩ | ⟨id, off, cap, fs, rfl, _⟩ <;> rfl
theorem RowsV.sl {H : Heap} {f : F} {rs : List (List Nat)} (h : RowsV H f rs) (h0 : 0 < rs.length) : ∃ id off cap fs, f = .sl id off 1 rs.length cap ∧ All2 (RowV H) fs rs ∧ ∀ (i : Nat) g, fs[i]? = some g → atA H id (off + i) g := by
  rcases h.cases with ⟨rfl, rfl⟩ | h
  · simp at h0
  · exact h
theorem RowsV.mono {H H' : Heap} (hm : Mono H H') {f : F} {rs : List (List Nat)} (h : RowsV H f rs) : RowsV H' f rs := by
  obtain ⟨fs, h1, h2⟩ := h
  exact ⟨fs, rowA_mono hm h1, h2.mono fun _ _ q => q.mono hm⟩
theorem RowV.sl {H : Heap} {f : F} {l : List Nat} (h : RowV H f l) (h0 : 0 < l.length) : ∃ id off cap, f = .sl id off 1 l.length cap ∧ ∀ (i x : Nat), l[i]? = some x → atA H id (off + i) (.int .u8 (x : Int)) := by
  rcases h.cases with ⟨rfl, rfl⟩ | h
  · simp at h0
  · exact h
theorem sum_pure {X : Heap} {n N : Nat} {f : F} (rs : List (List Nat)) (hr : RowsV X f rs) (hN : N ≤ 1000) (hlt : rs.length < 9223372036854775808) (ht : Top X n) : PureC 65 [vi N, vf f] X n fun v X' => ∃ g, v = vf g ∧ RowV X' g (sumRows N rs) := by
  have h := sum_any rs hr hN hlt ht
  have hb : Rw N (sumRows N rs) := by
    have : ∀ (rs : List (List Nat)) (cur : List Nat), Rw N cur → (∀ r ∈ rs, B8 r) → Rw N (rs.foldl addR cur) := by
      intro rs
      induction rs with
      | nil => intro cur h _; exact h
      | cons r rs ih => intro cur h hr; exact ih _ ⟨by rw [addR_len, h.1], addR_b8 h.2 (hr r (by simp))⟩ fun q hq => hr q (by simp [hq])
    refine this rs _ (Rw.zs N) fun r hq => ?_
    obtain ⟨fs, _, hA⟩ := hr
    obtain ⟨i, hi, rfl⟩ := List.mem_iff_getElem.1 hq
    obtain ⟨g, _, hg⟩ := hA.nth hi
    exact hg.2.1
  refine ⟨_, _, _, h, mono_upd (ht n (Nat.le_refl _)), h.1.top ht, _, rfl, row_all (upd_same _ _ _) (by rw [bs_len, hb.1]; simp), hb.2, by rw [hb.1]; omega⟩
theorem scale_pure {X : Heap} {n c : Nat} {f : F} (l : List Nat) (hr : RowV X f l) (h0 : 0 < l.length) (hc : c < 256) (ht : Top X n) : PureC 141 [vb c, vf f] X n fun v X' => ∃ g, v = vf g ∧ RowV X' g (sca c l) := by
  obtain ⟨id, off, cap, rfl, _⟩ := hr.sl h0
  have h := scale_any (n := n) (c := c) l hr.1 hr.2.1 hc hr.2.2 ht
  exact ⟨_, _, _, h, mono_upd (ht n (Nat.le_refl _)), h.1.top ht, _, rfl, row_all (upd_same _ _ _) (by simp [bs_len]), sca_b8 hc l, by rw [sca_len]; exact hr.2.2⟩
theorem All2.snoc {α β : Type} {R : α → β → Prop} {l : List α} {k : List β} (h : All2 R l k) {a : α} {b : β} (hab : R a b) : All2 R (l ++ [a]) (k ++ [b]) := All2.append h ⟨hab, trivial⟩
theorem take_snoc {α : Type} {l : List α} {i : Nat} (hi : i < l.length) : l.take (i + 1) = l.take i ++ [l[i]] := by simp

theorem fit1_pure {X : Heap} {n : Nat} {N : Nat} {f : F} (l : List Nat) (hr : RowV X f l) (hN : N ≤ 1000) (ht : Top X n) : PureC 41 [vf (.int .i64 ((N : Nat) : Int)), vf (f)] X n fun v X' => ∃ g, v = vf g ∧ RowV X' g (sumRows N [l]) := by
  refine PureC.of_to (by kernel_rfl) ?_
  have s0 := Sep.ini ht
  have hm0 : Mono X X := Mono.rfl
  refine To.seq (by kernel_rfl) ?_
  refine To.region (by kernel_rfl) ?_
  refine Sg.go 1 (by kernel_rfl) ?_
  refine Sg.done (by kernel_rfl) ?_
  show To Tryz.prog 41 [1] _ _ _ _
  refine To.seq (by kernel_rfl) ?_
  refine To.region (by kernel_rfl) ?_
  refine Sg.go 2 (by kernel_rfl) ?_
  obtain ⟨X1, H2, s3, m4, f5, J6⟩ := jNewF s0 (.cells [f] true)
  have hm0 := hm0.tr m4
  have hr := hr.mono m4
  refine Sg.op (some 7) (by kernel_rfl) (J6 _ _ (vf (.sl (n) (0) 1 (1) none)) (by kernel_rfl)) ?_
  obtain ⟨_, X7, n8, hc9, hm10, ht11, ⟨g, rfl, hg⟩⟩ := (sum_pure (N := N) [l] ⟨[f], row_all f5 rfl, ⟨hr, trivial⟩⟩ hN (by simp) s3.topX : PureC 65 [vf (.int .i64 ((N : Nat) : Int)), vf (.sl (n) (0) 1 (1) none)] X1 (n + 1) _)
  obtain ⟨H12, hc13, s14⟩ := s3.call hc9 hm10 ht11
  have f15 := hm10 _ _ f5
  have hm0 := hm0.tr hm10
  have hr := hr.mono hm10
  refine Sg.op (some 8) (by kernel_rfl) (jCall (by kernel_rfl) hc13 (by kernel_rfl)) ?_
  refine Sg.go 1 (by kernel_rfl) ?_
  refine Sg.done (by kernel_rfl) ?_
  show To Tryz.prog 41 [1, 1] _ _ _ _
  refine To.ret (by kernel_rfl) ?_
  exact ⟨.inr rfl, _, by kernel_rfl, X7, _, s14, hm0, g, rfl, hg⟩
theorem fit_make {X : Heap} {n : Nat} {N : Nat} {f : F} (rs : List (List Nat)) (hr : RowsV X f rs) (hN : N ≤ 1000) (hlt : rs.length < 100000) (ht : Top X n) : MakeC 94 [vf (.int .i64 ((N : Nat) : Int)), vf (f)] X n fun v X' M' => ∃ a fs, v = vf a ∧ M' = accM a fs ∧ AccF 1 a fs ∧ All2 (RowV X') fs (rs.map fun r => sumRows N [r]) := by
  refine MakeC.of_to (by kernel_rfl) ?_
  have s0 := Sep.ini ht
  have hm0 : Mono X X := Mono.rfl
  refine To.seq (by kernel_rfl) ?_
  refine To.region (by kernel_rfl) ?_
  refine Sg.go 1 (by kernel_rfl) ?_
  refine Sg.done (by kernel_rfl) ?_
  show To Tryz.prog 94 [1] _ _ _ _
  refine To.seq (by kernel_rfl) ?_
  refine To.region (by kernel_rfl) ?_
  refine Sg.go 1 (by kernel_rfl) ?_
  refine Sg.done (by kernel_rfl) ?_
  show To Tryz.prog 94 [1, 1] _ _ _ _
  refine To.seq (by kernel_rfl) ?_
  refine To.seq (by kernel_rfl) ?_
  refine To.region (by kernel_rfl) ?_
  refine Sg.go 1 (by kernel_rfl) ?_
  refine Sg.op (some 9) (by kernel_rfl) (jLenV (l := rs.length) hr.lenA (by kernel_rfl)) ?_
  refine Sg.go 1 (by kernel_rfl) ?_
  refine Sg.done (by kernel_rfl) ?_
  show To Tryz.prog 94 [1, 0, 1, 1] _ _ _ _
  refine To.block 0 (by kernel_rfl) ?_
  refine To.loop (by kernel_rfl) ?_
  refine ToL.for (rs.length) (fun i A H n => ∃ (Y : Heap) (a : F) (fs : List F), AtL A [(0, vf (.int .i64 ((N : Nat) : Int))), (8, vf (f)), (9, vf (.int .i64 ((rs.length : Nat) : Int))), (10, vf (.int .i64 ((i : Nat) : Int))), (5, vf (a))] ∧ Sep Y H n ([] ++ (accM (a) (fs) ++ [])) ∧ Mono X Y ∧ RowsV Y f rs ∧ AccF 1 a fs ∧ All2 (RowV Y) fs ((rs.take i).map fun r => sumRows N [r])) ⟨X, .sl0, [], getsL_spec (ts := [0, 8, 9, 10, 5]) (by kernel_rfl), s0, hm0, hr, AccF.nil 1, trivial⟩ (fun i A H n hi hI => ?_) (fun A H n hI => ?_)
  · skip
    obtain ⟨Y, a, fs, hT, s16, hm0, hr, ha, hA⟩ := hI
    refine To.keep _ ?_ hT.sub
    have hl := hA.length
    rw [List.length_map, List.length_take] at hl
    obtain ⟨id, off, cap, gs, rfl, hG, hat⟩ := hr.sl (by omega)
    obtain ⟨g, hg0, hg⟩ := hG.nth hi
    refine To.seq (by kernel_rfl) ?_
    refine To.region (by kernel_rfl) ?_
    refine Sg.op (some 11) (by kernel_rfl) (jBin (b_lssT .i64 (x := ((i : Nat) : Int)) (y := ((rs.length : Nat) : Int)) (by omega)) (by kernel_rfl)) ?_
    refine Sg.done (by kernel_rfl) ?_
    show To Tryz.prog 94 [1, 0, 0, 1, 0, 1, 1] _ _ _ _
    refine To.seq (by kernel_rfl) ?_
    refine To.ifT (by kernel_rfl) (by kernel_rfl) ?_
    refine To.skip (by kernel_rfl) ?_
    show To Tryz.prog 94 [1, 1, 0, 0, 1, 0, 1, 1] _ _ _ _
    refine To.seq (by kernel_rfl) ?_
    refine To.block 1 (by kernel_rfl) ?_
    refine To.seq (by kernel_rfl) ?_
    refine To.region (by kernel_rfl) ?_
    refine Sg.op (some 12) (by kernel_rfl) (jIdx (id := id) (off := off) (sz := 1) (len := rs.length) (k := i) (by omega) (by kernel_rfl)) ?_
    refine Sg.op (some 13) (by kernel_rfl) (jLoadX (id := id) (off := off + i * 1) (x := g) (by rw [Nat.mul_one]; exact (hat i g hg0).mono (s16.mono _)) (by kernel_rfl)) ?_
    refine Sg.go 1 (by kernel_rfl) ?_
    refine Sg.done (by kernel_rfl) ?_
    show To Tryz.prog 94 [1, 0, 0, 1, 1, 0, 0, 1, 0, 1, 1] _ _ _ _
    refine To.region (by kernel_rfl) ?_
    refine Sg.go 3 (by kernel_rfl) ?_
    obtain ⟨_, X17, n18, hc19, hm20, ht21, ⟨g2, rfl, hg2⟩⟩ := (fit1_pure (N := N) rs[i] hg hN s16.topX : PureC 41 [vf (.int .i64 ((N : Nat) : Int)), vf (g)] Y (n) _)
    obtain ⟨H22, hc23, s24⟩ := s16.call hc19 hm20 ht21
    have hm0 := hm0.tr hm20
    have hr := hr.mono hm20
    have hg := hg.mono hm20
    have hA := hA.mono fun _ _ q => q.mono hm20
    refine Sg.op (some 17) (by kernel_rfl) (jCall (by kernel_rfl) hc23 (by kernel_rfl)) ?_
    obtain ⟨X25, H26, s27, m28, f29, J30⟩ := jNewF s24 (.cells [g2] true)
    have hm0 := hm0.tr m28
    have hr := hr.mono m28
    have hg := hg.mono m28
    have hA := hA.mono fun _ _ q => q.mono m28
    have hg2 := hg2.mono m28
    refine Sg.op (some 18) (by kernel_rfl) (J30 _ _ (vf (.sl (n18) (0) 1 (1) none)) (by kernel_rfl)) ?_
    obtain ⟨a31, H32, n33, ha34, s35, J36⟩ := jAcc (sz := 1) (bytes := 24) (x := .sl (n18) (0) 1 (1) none) (fs := fs) (new := [g2]) (M1 := []) s27 ha (row_all (s27.mono _ _ f29) rfl) (rfl) (by omega) (by omega)
    refine Sg.op (some 19) (by kernel_rfl) (J36 _ _ (by kernel_rfl)) ?_
    refine Sg.go 1 (by kernel_rfl) ?_
    refine Sg.done (by kernel_rfl) ?_
    show To Tryz.prog 94 [1, 1, 1, 0, 0, 1, 0, 1, 1] _ _ _ _
    refine To.region (by kernel_rfl) ?_
    refine Sg.op (some 20) (by kernel_rfl) (jBin (b_addN (i) (1) (by omega)) (by kernel_rfl)) ?_
    refine Sg.go 1 (by kernel_rfl) ?_
    refine Sg.done (by kernel_rfl) ?_
    exact .inl ⟨rfl, X25, _, _, getsL_spec (ts := [0, 8, 9, 10, 5]) (by kernel_rfl), s35, hm0, hr, ha34, by rw [take_snoc hi, List.map_append]; exact hA.snoc hg2⟩
  · skip
    obtain ⟨Y, a, fs, hT, s37, hm0, hr, ha, hA⟩ := hI
    refine To.keep _ ?_ hT.sub
    refine To.seq (by kernel_rfl) ?_
    refine To.region (by kernel_rfl) ?_
    refine Sg.op (some 11) (by kernel_rfl) (jBin (b_lssF .i64 (x := (((rs.length) : Nat) : Int)) (y := ((rs.length : Nat) : Int)) (by simp)) (by kernel_rfl)) ?_
    refine Sg.done (by kernel_rfl) ?_
    show To Tryz.prog 94 [1, 0, 0, 1, 0, 1, 1] _ _ _ _
    refine To.seq (by kernel_rfl) ?_
    refine To.ifF (by kernel_rfl) (by kernel_rfl) ?_
    refine To.exit 0 (by kernel_rfl) ?_
    refine ⟨by simp, ?_⟩
    show To Tryz.prog 94 [1, 1, 1] _ _ _ _
    refine To.seq (by kernel_rfl) ?_
    refine To.region (by kernel_rfl) ?_
    refine Sg.go 2 (by kernel_rfl) ?_
    refine Sg.done (by kernel_rfl) ?_
    show To Tryz.prog 94 [1, 1, 1, 1] _ _ _ _
    refine To.ret (by kernel_rfl) ?_
    exact ⟨.inr rfl, _, by kernel_rfl, Y, _, s37, hm0, a, fs, rfl, by simp, ha, by rw [List.take_length] at hA; exact hA⟩
end Go.Proofs.YtkimkgbppegkhaaGreat.Cm
