/- The clean machine's walks of blocks: made of sources, and their symbols. -/
import Derived.Test.YtkimkgbppegkhaaGreatGh
import Derived.Test.YtkimkgbppegkhaaGreatCe
namespace Go.Proofs.YtkimkgbppegkhaaGreat.Cm
open Go Go.RowKit Go.Proofs.YtkimkgbppegkhaaGreat.Gf
set_option maxRecDepth 1000000
theorem RowsV.len {X : Heap} {f : F} {rs : List (List Nat)} (h : RowsV X f rs) : ∃ fs, rowA X 1 f = some fs ∧ All2 (RowV X) fs rs ∧ fs.length = rs.length := by
  obtain ⟨fs, h1, h2⟩ := h
  exact ⟨fs, h1, h2, h2.length.symm⟩
theorem none_imp {len : Nat} {v : V} (h : (v = vf (.bool true) ∧ ∃ i, i < len ∧ (fun _ => false : Nat → Bool) i = true) ∨ (v = vf (.bool false) ∧ ∀ i, i < len → (fun _ => false : Nat → Bool) i = false)) : v = vf (.bool false) := by
  rcases h with ⟨_, i, _, h⟩ | ⟨h, _⟩
  · cases h
  · exact h
theorem All2.at {α β : Type} {R : α → β → Prop} : ∀ {l : List α} {k : List β}, All2 R l k → ∀ {i : Nat} {a : α}, l[i]? = some a → ∃ b, k[i]? = some b ∧ R a b
  | a :: l, b :: k, H, 0, x, h => by simp at h; subst h; exact ⟨b, by simp, H.1⟩
  | a :: l, b :: k, H, i + 1, x, h => by simpa using All2.at H.2 (i := i) (a := x) (by simpa using h)
  | [], [], _, i, x, h => by simp at h
  | [], _ :: _, H, _, _, _ => H.elim
  | _ :: _, [], H, _, _, _ => H.elim

theorem drops_pure {X : Heap} {n : Nat} {k N : Nat} {fc fe : F} (cs : List (List Nat)) (es : List Nat) (h1 : 1 ≤ k) (h8 : k ≤ 8) (hps : ∀ e ∈ es, PartsOk k e) (hlt : es.length < 10000) (hc : RowsV X fc cs) (he : IntsV X fe es) (hcs : Mx (lK k) N cs) (hN0 : 0 < N) (hN : N ≤ 64) (ht : Top X n) : PureC 55 [.u (.agg [.int .i64 ((k : Nat) : Int), .int .i64 ((sK k : Nat) : Int), .int .i64 2]), vf (.int .i64 0), vf (.int .i64 ((N : Nat) : Int)), vf (fc), vf (fe)] X n fun v X' => ∃ g, v = vf g ∧ RowsV X' g (es.map fun e => comb N (rowE k e) cs) := by
  refine PureC.of_to (by kernel_rfl) ?_
  have s0 := Sep.ini ht
  have hm0 : Mono X X := Mono.rfl
  refine To.seq (by kernel_rfl) ?_
  refine To.region (by kernel_rfl) ?_
  obtain ⟨H1, s2, J3⟩ := jNewM s0 (.cells [.int .i64 ((k : Nat) : Int), .int .i64 ((sK k : Nat) : Int), .int .i64 2] true)
  refine Sg.op (some 5) (by kernel_rfl) (J3 _ _ (vf (.ptr (n) (0))) (by kernel_rfl)) ?_
  refine Sg.go 1 (by kernel_rfl) ?_
  refine Sg.done (by kernel_rfl) ?_
  show To Tryz.prog 55 [1] _ _ _ _
  refine To.seq (by kernel_rfl) ?_
  refine To.region (by kernel_rfl) ?_
  refine Sg.go 1 (by kernel_rfl) ?_
  refine Sg.done (by kernel_rfl) ?_
  show To Tryz.prog 55 [1, 1] _ _ _ _
  refine To.seq (by kernel_rfl) ?_
  refine To.seq (by kernel_rfl) ?_
  refine To.region (by kernel_rfl) ?_
  refine Sg.go 1 (by kernel_rfl) ?_
  refine Sg.op (some 16) (by kernel_rfl) (jLenV (l := es.length) (he.lenA) (by kernel_rfl)) ?_
  refine Sg.go 1 (by kernel_rfl) ?_
  refine Sg.done (by kernel_rfl) ?_
  show To Tryz.prog 55 [1, 0, 1, 1] _ _ _ _
  refine To.block 0 (by kernel_rfl) ?_
  refine To.loop (by kernel_rfl) ?_
  refine ToL.for (es.length) (fun i A Hq nq => ∃ (Y : Heap) (a : F) (fs : List F), AtL A [(1, vf (.int .i64 0)), (2, vf (.int .i64 ((N : Nat) : Int))), (3, vf (fc)), (5, vf (.ptr (n) (0))), (11, vf (a)), (15, vf (fe)), (16, vf (.int .i64 ((es.length : Nat) : Int))), (17, vf (.int .i64 ((i : Nat) : Int)))] ∧ Sep Y Hq nq ([(n, .cells [.int .i64 ((k : Nat) : Int), .int .i64 ((sK k : Nat) : Int), .int .i64 2] true)] ++ (accM (a) (fs) ++ [])) ∧ (Mono X Y) ∧ (RowsV Y fc cs) ∧ (IntsV Y fe es) ∧ (AccF 1 a fs) ∧ (All2 (RowV Y) fs ((es.take i).map fun e => comb N (rowE k e) cs))) ⟨X, .sl0, [], getsL_spec (ts := [1, 2, 3, 5, 11, 15, 16, 17]) (by kernel_rfl), s2, (hm0), (hc), (he), (AccF.nil 1), (trivial)⟩ (fun i A H4 n5 hi hI => ?_) (fun A H4 n5 hI => ?_)
  · skip
    obtain ⟨Y, a, fs, hT, s6, hm0, hc, he, ha, hA⟩ := hI
    refine To.keep _ ?_ hT.sub
    obtain ⟨eid, eoff, ecap, rfl, hea⟩ := he.sl (by omega)
    have hx : es[i]? = some es[i] := List.getElem?_eq_getElem hi
    have hp := hps _ (List.getElem_mem hi)
    have hl := hA.length
    rw [List.length_map, List.length_take] at hl
    refine To.seq (by kernel_rfl) ?_
    refine To.region (by kernel_rfl) ?_
    refine Sg.op (some 18) (by kernel_rfl) (jBin (b_lssT .i64 (x := ((i : Nat) : Int)) (y := ((es.length : Nat) : Int)) (by omega)) (by kernel_rfl)) ?_
    refine Sg.done (by kernel_rfl) ?_
    show To Tryz.prog 55 [1, 0, 0, 1, 0, 1, 1] _ _ _ _
    refine To.seq (by kernel_rfl) ?_
    refine To.ifT (by kernel_rfl) (by kernel_rfl) ?_
    refine To.skip (by kernel_rfl) ?_
    show To Tryz.prog 55 [1, 1, 0, 0, 1, 0, 1, 1] _ _ _ _
    refine To.seq (by kernel_rfl) ?_
    refine To.block 1 (by kernel_rfl) ?_
    refine To.seq (by kernel_rfl) ?_
    refine To.region (by kernel_rfl) ?_
    refine Sg.op (some 19) (by kernel_rfl) (jIdx (id := eid) (off := eoff) (sz := 1) (len := es.length) (k := i) (by omega) (by kernel_rfl)) ?_
    refine Sg.op (some 20) (by kernel_rfl) (jLoadX (id := eid) (off := eoff + i * 1) (x := .int .i64 ((es[i] : Nat) : Int)) (by rw [Nat.mul_one]; exact (hea i _ hx).mono (s6.mono _)) (by kernel_rfl)) ?_
    refine Sg.go 1 (by kernel_rfl) ?_
    refine Sg.done (by kernel_rfl) ?_
    show To Tryz.prog 55 [1, 0, 0, 1, 1, 0, 0, 1, 0, 1, 1] _ _ _ _
    refine To.seq (by kernel_rfl) ?_
    refine To.region (by kernel_rfl) ?_
    refine Sg.op (some 21) (by kernel_rfl) (jLoadAE (off := 0) (sz := 3) (c := [.int .i64 ((k : Nat) : Int), .int .i64 ((sK k : Nat) : Int), .int .i64 2]) (s6.at 0 rfl) (by simp) rfl (by kernel_rfl)) ?_
    refine Sg.go 4 (by kernel_rfl) ?_
    obtain ⟨_, X7, n8, hc9, hm10, ht11, ⟨g, rfl, hg⟩⟩ := (drop_pure cs h1 h8 hp hc hcs hN0 hN s6.topX : PureC 48 [.u (.agg [.int .i64 ((k : Nat) : Int), .int .i64 ((sK k : Nat) : Int), .int .i64 2]), vf (.int .i64 0), vf (.int .i64 ((N : Nat) : Int)), vf (fc), vf (.int .i64 ((es[i] : Nat) : Int))] Y (n5) _)
    obtain ⟨H12, hc13, s14⟩ := s6.call hc9 hm10 ht11
    have hm0 := hm0.tr hm10
    have hc := hc.mono hm10
    have he := he.mono hm10
    have hA := hA.mono fun _ _ q => q.mono hm10
    refine Sg.op (some 26) (by kernel_rfl) (jCall (by kernel_rfl) hc13 (by kernel_rfl)) ?_
    refine Sg.go 1 (by kernel_rfl) ?_
    refine Sg.done (by kernel_rfl) ?_
    show To Tryz.prog 55 [1, 1, 0, 0, 1, 1, 0, 0, 1, 0, 1, 1] _ _ _ _
    refine To.seq (by kernel_rfl) ?_
    refine To.seq (by kernel_rfl) ?_
    refine To.region (by kernel_rfl) ?_
    refine Sg.go 1 (by kernel_rfl) ?_
    refine Sg.op (some 28) (by kernel_rfl) (jLenV (l := (comb N (rowE k es[i]) cs).length) (hg.lenA) (by kernel_rfl)) ?_
    have hgl := comb_len (N := N) (rowE k es[i]) cs hcs.2
    refine Sg.op (some 29) (by kernel_rfl) (jBin (b_eqlF .i64 (x := (((comb N (rowE k es[i]) cs).length : Nat) : Int)) (y := (0 : Int)) (by omega)) (by kernel_rfl)) ?_
    refine Sg.done (by kernel_rfl) ?_
    show To Tryz.prog 55 [1, 0, 1, 1, 0, 0, 1, 1, 0, 0, 1, 0, 1, 1] _ _ _ _
    refine To.ifF (by kernel_rfl) (by kernel_rfl) ?_
    refine To.skip (by kernel_rfl) ?_
    show To Tryz.prog 55 [1, 1, 1, 0, 0, 1, 1, 0, 0, 1, 0, 1, 1] _ _ _ _
    refine To.region (by kernel_rfl) ?_
    refine Sg.go 2 (by kernel_rfl) ?_
    obtain ⟨X15, H16, s17, m18, f19, J20⟩ := jNewF s14 (.cells [g] true)
    have hm0 := hm0.tr m18
    have hc := hc.mono m18
    have he := he.mono m18
    have hA := hA.mono fun _ _ q => q.mono m18
    have hg := hg.mono m18
    refine Sg.op (some 32) (by kernel_rfl) (J20 _ _ (vf (.sl (n8) (0) 1 (1) none)) (by kernel_rfl)) ?_
    obtain ⟨a21, H22, n23, ha24, s25, J26⟩ := jAcc (sz := 1) (bytes := 24) (x := .sl (n8) (0) 1 (1) none) (fs := fs) (new := [g]) (M1 := [(n, .cells [.int .i64 ((k : Nat) : Int), .int .i64 ((sK k : Nat) : Int), .int .i64 2] true)]) (M2 := []) s17 ha (row_all (s17.mono _ _ f19) rfl) (rfl) (by omega) (by omega)
    refine Sg.op (some 33) (by kernel_rfl) (J26 _ _ (by kernel_rfl)) ?_
    refine Sg.go 1 (by kernel_rfl) ?_
    refine Sg.done (by kernel_rfl) ?_
    show To Tryz.prog 55 [1, 1, 1, 0, 0, 1, 0, 1, 1] _ _ _ _
    refine To.region (by kernel_rfl) ?_
    refine Sg.op (some 34) (by kernel_rfl) (jBin (b_addN (i) (1) (by omega)) (by kernel_rfl)) ?_
    refine Sg.go 1 (by kernel_rfl) ?_
    refine Sg.done (by kernel_rfl) ?_
    exact .inl ⟨rfl, X15, _, _, getsL_spec (ts := [1, 2, 3, 5, 11, 15, 16, 17]) (by kernel_rfl), s25, (hm0), (hc), (he), (ha24), (by rw [map_take_succ hi]; exact hA.snoc hg)⟩
  · skip
    obtain ⟨Y, a, fs, hT, s27, hm0, hc, he, ha, hA⟩ := hI
    refine To.keep _ ?_ hT.sub
    refine To.seq (by kernel_rfl) ?_
    refine To.region (by kernel_rfl) ?_
    refine Sg.op (some 18) (by kernel_rfl) (jBin (b_lssF .i64 (x := (((es.length) : Nat) : Int)) (y := ((es.length : Nat) : Int)) (by simp)) (by kernel_rfl)) ?_
    refine Sg.done (by kernel_rfl) ?_
    show To Tryz.prog 55 [1, 0, 0, 1, 0, 1, 1] _ _ _ _
    obtain ⟨X28, m29, s30, hrow, hrowk⟩ := Sep.acc (sz := 1) (M1 := [(n, .cells [.int .i64 ((k : Nat) : Int), .int .i64 ((sK k : Nat) : Int), .int .i64 2] true)]) (M2 := []) (a := a) (fs := fs) (by simpa using s27) ha
    have hm0 := hm0.tr m29
    have hc := hc.mono m29
    have he := he.mono m29
    have hA := hA.mono fun _ _ q => q.mono m29
    have s30 : Sep X28 H4 (n5) [(n, .cells [.int .i64 ((k : Nat) : Int), .int .i64 ((sK k : Nat) : Int), .int .i64 2] true)] := by simpa using s30
    refine To.seq (by kernel_rfl) ?_
    refine To.ifF (by kernel_rfl) (by kernel_rfl) ?_
    refine To.exit 0 (by kernel_rfl) ?_
    refine ⟨by simp, ?_⟩
    show To Tryz.prog 55 [1, 1, 1] _ _ _ _
    refine To.seq (by kernel_rfl) ?_
    refine To.region (by kernel_rfl) ?_
    refine Sg.go 2 (by kernel_rfl) ?_
    refine Sg.done (by kernel_rfl) ?_
    show To Tryz.prog 55 [1, 1, 1, 1] _ _ _ _
    refine To.ret (by kernel_rfl) ?_
    exact ⟨.inr rfl, _, by kernel_rfl, X28, _, s30, hm0, _, rfl, _, hrow, by rw [List.take_length] at hA; exact hA⟩
theorem is44 {X : Heap} {n : Nat} {b N : Nat} {f : F} (l : List Nat) (hr : RowV X f l) (hb : X b = some (.cells [.int .i64 ((N : Nat) : Int)] true)) (hl : l.length = N) (ht : Top X n) : PureC 44 [vf (f), vf (.ptr (b) (0))] X n fun v X' => v = vf (.bool false) := by
  refine PureC.of_to (by kernel_rfl) ?_
  have s0 := Sep.ini ht
  have hm0 : Mono X X := Mono.rfl
  refine To.seq (by kernel_rfl) ?_
  refine To.region (by kernel_rfl) ?_
  refine Sg.go 1 (by kernel_rfl) ?_
  refine Sg.done (by kernel_rfl) ?_
  show To Tryz.prog 44 [1] _ _ _ _
  refine To.seq (by kernel_rfl) ?_
  refine To.region (by kernel_rfl) ?_
  refine Sg.go 1 (by kernel_rfl) ?_
  refine Sg.op (some 5) (by kernel_rfl) (jLenV (l := l.length) (hr.lenA) (by kernel_rfl)) ?_
  refine Sg.op (some 6) (by kernel_rfl) (jLoad (off := 0) (x := .int .i64 ((N : Nat) : Int)) (s0.mono _ _ hb) (by kernel_rfl) (by kernel_rfl)) ?_
  refine Sg.op (some 7) (by kernel_rfl) (jBin (b_neqF .i64 (x := ((l.length : Nat) : Int)) (y := ((N : Nat) : Int)) (by omega)) (by kernel_rfl)) ?_
  refine Sg.go 1 (by kernel_rfl) ?_
  refine Sg.done (by kernel_rfl) ?_
  show To Tryz.prog 44 [1, 1] _ _ _ _
  refine To.ret (by kernel_rfl) ?_
  exact ⟨.inr rfl, _, by kernel_rfl, X, _, s0, hm0, rfl⟩
/-- a block, as a heap has it -/
def BlockV (X : Heap) (b k N : Nat) (cs : List (List Nat)) : Prop := ∃ pf, X b = some (.cells [.int .i64 ((k : Nat) : Int), .int .i64 ((sK k : Nat) : Int), .int .i64 2, .int .i64 0, .int .i64 ((N : Nat) : Int), pf] true) ∧ RowsV X pf cs
theorem BlockV.mono {X Y : Heap} {b k N : Nat} {cs : List (List Nat)} (hm : Mono X Y) (h : BlockV X b k N cs) : BlockV Y b k N cs := by
  obtain ⟨pf, h1, h2⟩ := h
  exact ⟨pf, hm _ _ h1, h2.mono hm⟩
theorem new_pure {X : Heap} {n : Nat} {k N : Nat} {fd : F} (ds : List (List Nat)) (h1 : 1 ≤ k) (h8 : k ≤ 8) (hd : RowsV X fd ds) (hds : Mx k N ds) (hN0 : 0 < N) (hN : N ≤ 64) (ht : Top X n) : PureC 25 [vf (.int .i64 ((N : Nat) : Int)), vf (fd)] X n fun v X' => ∃ g e, v = .tup [.f g, .f (.int .i64 e)] ∧ ((e = 0 ∧ ∃ b cs, g = .ptr b 0 ∧ BlockV X' b k N cs ∧ Solved (lK k) N (sK k + 2 + (List.range k).length) (matK k (List.range k)) (besK k N ds) cs) ∨ (e = 4 ∧ g = .ptr0 ∧ Unsolved (lK k) N (sK k + 2 + (List.range k).length) (matK k (List.range k)) (besK k N ds))) := by
  refine PureC.of_to (by kernel_rfl) ?_
  have s0 := Sep.ini ht
  have hm0 : Mono X X := Mono.rfl
  obtain ⟨fds, hdr, hdA⟩ := hd
  have hfl : fds.length = k := by rw [← hdA.length]; exact hds.1
  have hd : RowsV X fd ds := ⟨fds, hdr, hdA⟩
  have hL := lK_le h8
  have hdl := hds.1
  refine To.seq (by kernel_rfl) ?_
  refine To.region (by kernel_rfl) ?_
  obtain ⟨H31, s32, J33⟩ := jNewM s0 (.cells [.int .i64 ((N : Nat) : Int)] true)
  refine Sg.op (some 2) (by kernel_rfl) (J33 _ _ (vf (.ptr (n) (0))) (by kernel_rfl)) ?_
  refine Sg.go 2 (by kernel_rfl) ?_
  refine Sg.done (by kernel_rfl) ?_
  show To Tryz.prog 25 [1] _ _ _ _
  refine To.seq (by kernel_rfl) ?_
  refine To.region (by kernel_rfl) ?_
  refine Sg.go 1 (by kernel_rfl) ?_
  refine Sg.op (some 12) (by kernel_rfl) (jLenV (l := ds.length) (hd.lenA) (by kernel_rfl)) ?_
  rw [hds.1]
  obtain ⟨_, X34, n35, hc36, hm37, ht38, rfl⟩ := (of_pure h1 h8 s32.topX : PureC 42 [vf (.int .i64 ((k : Nat) : Int))] X (n + 1) _)
  obtain ⟨H39, hc40, s41⟩ := s32.call hc36 hm37 ht38
  have hm0 := hm0.tr hm37
  have hdr := rowA_mono hm37 hdr
  have hd := hd.mono hm37
  have hdA := hdA.mono fun _ _ q => q.mono hm37
  refine Sg.op (some 13) (by kernel_rfl) (jCall (by kernel_rfl) hc40 (by kernel_rfl)) ?_
  refine Sg.go 3 (by kernel_rfl) ?_
  obtain ⟨H42, s43, J44⟩ := jNewM s41 (.cells [.int .i64 0, .int .i64 0, .int .i64 0] true)
  refine Sg.op (some 6) (by kernel_rfl) (J44 _ _ (vf (.ptr (n35) (0))) (by kernel_rfl)) ?_
  obtain ⟨H45, s46, J47⟩ := jSet (off := 0) (new := [.int .i64 ((k : Nat) : Int), .int .i64 ((sK k : Nat) : Int), .int .i64 2]) (cs' := [.int .i64 ((k : Nat) : Int), .int .i64 ((sK k : Nat) : Int), .int .i64 2]) s43 0 rfl (by simp) rfl
  have s46 : Sep X34 H45 (n35 + 1) [(n35, .cells [.int .i64 ((k : Nat) : Int), .int .i64 ((sK k : Nat) : Int), .int .i64 2] true), (n, .cells [.int .i64 ((N : Nat) : Int)] true)] := s46
  refine Sg.op none (by kernel_rfl) (J47 _ _ (by kernel_rfl)) ?_
  refine Sg.go 1 (by kernel_rfl) ?_
  refine Sg.done (by kernel_rfl) ?_
  show To Tryz.prog 25 [1, 1] _ _ _ _
  refine To.seq (by kernel_rfl) ?_
  refine To.seq (by kernel_rfl) ?_
  refine To.region (by kernel_rfl) ?_
  refine Sg.op (some 16) (by kernel_rfl) (jLoad (off := 0) (x := .int .i64 ((N : Nat) : Int)) (s46.at 1 rfl) (by kernel_rfl) (by kernel_rfl)) ?_
  refine Sg.op (some 17) (by kernel_rfl) (jBin (b_lssF .i64 (x := ((N : Nat) : Int)) (y := (1 : Int)) (by omega)) (by kernel_rfl)) ?_
  refine Sg.go 1 (by kernel_rfl) ?_
  refine Sg.op (some 19) (by kernel_rfl) (jLoad (off := 0) (x := .int .i64 ((N : Nat) : Int)) (s46.at 1 rfl) (by kernel_rfl) (by kernel_rfl)) ?_
  refine Sg.op (some 20) (by kernel_rfl) (jBin (b_gtrF .i64 (x := ((N : Nat) : Int)) (y := (64 : Int)) (by omega)) (by kernel_rfl)) ?_
  refine Sg.go 3 (by kernel_rfl) ?_
  refine Sg.op (some 24) (by kernel_rfl) (jBin (b_neqF .i64 (x := (0 : Int)) (y := (0 : Int)) (by omega)) (by kernel_rfl)) ?_
  refine Sg.go 1 (by kernel_rfl) ?_
  refine Sg.done (by kernel_rfl) ?_
  show To Tryz.prog 25 [1, 0, 1, 1] _ _ _ _
  refine To.ifF (by kernel_rfl) (by kernel_rfl) ?_
  refine To.skip (by kernel_rfl) ?_
  show To Tryz.prog 25 [1, 1, 1] _ _ _ _
  refine To.seq (by kernel_rfl) ?_
  refine To.seq (by kernel_rfl) ?_
  refine To.region (by kernel_rfl) ?_
  refine Sg.go 2 (by kernel_rfl) ?_
  obtain ⟨_, H48, n49, hc50, hm51, ht52, rfl⟩ := (((contains43 (g := 44) (caps := [.ptr n 0]) (cs := fds) (fun _ => false) (rowA_mono s46.mono hdr) (by omega) (by kernel_rfl) (fun i x hx Y' m' hm' ht' => by
      obtain ⟨r, hr1, hr2⟩ := hdA.at hx
      exact is44 r (hr2.mono (s46.mono.tr hm')) (hm' _ _ (s46.at 1 rfl)) (hds.2 r (List.mem_of_getElem? hr1)).1 ht') s46.top).imp fun v Y h => none_imp h) : PureC 43 [vf (fd), .u (.fn 44 [.ptr (n) (0)])] H45 (n35 + 1) _)
  have s53 := s46.callH hc50 hm51 ht52
  refine Sg.op (some 28) (by kernel_rfl) (jCall (by kernel_rfl) hc50 (by kernel_rfl)) ?_
  refine Sg.done (by kernel_rfl) ?_
  show To Tryz.prog 25 [1, 0, 1, 1, 1] _ _ _ _
  refine To.ifF (by kernel_rfl) (by kernel_rfl) ?_
  refine To.skip (by kernel_rfl) ?_
  show To Tryz.prog 25 [1, 1, 1, 1] _ _ _ _
  refine To.seq (by kernel_rfl) ?_
  refine To.region (by kernel_rfl) ?_
  refine Sg.go 1 (by kernel_rfl) ?_
  refine Sg.op (some 31) (by kernel_rfl) (jLoad (off := 0) (x := .int .i64 ((k : Nat) : Int)) (s53.at 0 rfl) (by kernel_rfl) (by kernel_rfl)) ?_
  obtain ⟨_, X54, n55, hc56, hm57, ht58, rfl⟩ := (find_pure h1 h8 s53.topX : PureC 45 [vf (.int .i64 ((k : Nat) : Int))] X34 (n49) _)
  obtain ⟨H59, hc60, s61⟩ := s53.call hc56 hm57 ht58
  have hm0 := hm0.tr hm57
  have hdr := rowA_mono hm57 hdr
  have hd := hd.mono hm57
  have hdA := hdA.mono fun _ _ q => q.mono hm57
  refine Sg.op (some 32) (by kernel_rfl) (jCall (by kernel_rfl) hc60 (by kernel_rfl)) ?_
  refine Sg.go 5 (by kernel_rfl) ?_
  refine Sg.done (by kernel_rfl) ?_
  show To Tryz.prog 25 [1, 1, 1, 1, 1] _ _ _ _
  refine To.seq (by kernel_rfl) ?_
  refine To.seq (by kernel_rfl) ?_
  refine To.region (by kernel_rfl) ?_
  refine Sg.go 1 (by kernel_rfl) ?_
  refine Sg.op (some 36) (by kernel_rfl) (jBin (b_neqF .i64 (x := (0 : Int)) (y := (0 : Int)) (by omega)) (by kernel_rfl)) ?_
  refine Sg.done (by kernel_rfl) ?_
  show To Tryz.prog 25 [1, 0, 1, 1, 1, 1, 1] _ _ _ _
  refine To.ifF (by kernel_rfl) (by kernel_rfl) ?_
  refine To.skip (by kernel_rfl) ?_
  show To Tryz.prog 25 [1, 1, 1, 1, 1, 1] _ _ _ _
  refine To.seq (by kernel_rfl) ?_
  refine To.draw [3, 4, 5, 0, 1, 2, 6, 7, 8, 9, 10, 11, 12] progOk (by kernel_rfl) (by kernel_rfl) ?_
  refine Sd.go (L := [4, 5, 0, 1, 2, 6, 7, 8, 9, 10, 11, 12]) [3] (by kernel_rfl) ?_
  refine Sd.read (some 43) (n35) (by kernel_rfl) (by kernel_rfl) (by kernel_rfl) trivial (jLoad (off := 0) (x := .int .i64 ((k : Nat) : Int)) (s61.at 0 rfl) (by kernel_rfl) (by kernel_rfl)) ?_
  obtain ⟨_, X62, n63, hc64, hm65, ht66, ⟨ge, rfl, hge⟩⟩ := (sources_pure h1 h8 s61.topX : PureC 47 [vf (.int .i64 ((k : Nat) : Int))] X54 (n55) _)
  obtain ⟨H67, hc68, s69⟩ := s61.call hc64 hm65 ht66
  have hm0 := hm0.tr hm65
  have hdr := rowA_mono hm65 hdr
  have hd := hd.mono hm65
  have hdA := hdA.mono fun _ _ q => q.mono hm65
  refine Sd.eff (some 44) (by kernel_rfl) (by kernel_rfl) (jCall (by kernel_rfl) hc68 (by kernel_rfl)) ⟨.inl (by kernel_rfl), trivial⟩ ?_
  refine Sd.read (some 39) (n35) (by kernel_rfl) (by kernel_rfl) (by kernel_rfl) ⟨.inr ((s61.at 0 rfl).trans (s69.at 0 rfl).symm), trivial⟩ (jLoadAE (off := 0) (sz := 3) (c := [.int .i64 ((k : Nat) : Int), .int .i64 ((sK k : Nat) : Int), .int .i64 2]) (s69.at 0 rfl) (by simp) rfl (by kernel_rfl)) ?_
  refine Sd.go (L := [2, 6, 7, 8, 9, 10, 11, 12]) [1] (by kernel_rfl) ?_
  refine Sd.read (some 41) (n) (by kernel_rfl) (by kernel_rfl) (by kernel_rfl) ⟨.inr ((s61.at 1 rfl).trans (s69.at 1 rfl).symm), trivial⟩ (jLoad (off := 0) (x := .int .i64 ((N : Nat) : Int)) (s69.at 1 rfl) (by kernel_rfl) (by kernel_rfl)) ?_
  refine Sd.go (L := [7, 8, 9, 10, 11, 12]) [6] (by kernel_rfl) ?_
  obtain ⟨_, X70, n71, hc72, hm73, ht74, ⟨g, e, rfl, hS⟩⟩ := (bparts_pure (List.range k) ds h1 h8 hge (fun e he => parts_s h1 h8 (by have := List.mem_range.1 he; omega)) (by rw [List.length_range]; omega) ⟨fds, hdr, hdA⟩ (by rw [List.length_range]; exact hds) hN0 (by omega) s69.topX : PureC 46 [.u (.agg [.int .i64 ((k : Nat) : Int), .int .i64 ((sK k : Nat) : Int), .int .i64 2]), vf (.int .i64 0), vf (.int .i64 ((N : Nat) : Int)), vf (ge), vf (fd)] X62 (n63) _)
  obtain ⟨H75, hc76, s77⟩ := s69.call hc72 hm73 ht74
  have hm0 := hm0.tr hm73
  have hdr := rowA_mono hm73 hdr
  have hd := hd.mono hm73
  have hdA := hdA.mono fun _ _ q => q.mono hm73
  have hge := hge.mono hm73
  refine Sd.eff (some 46) (by kernel_rfl) (by kernel_rfl) (jCall (by kernel_rfl) hc76 (by kernel_rfl)) ⟨.inl (by kernel_rfl), .inl (by kernel_rfl), .inl (by kernel_rfl), trivial⟩ ?_
  refine Sd.go (L := []) [8, 9, 10, 11, 12] (by kernel_rfl) ?_
  refine Sd.done ?_
  show To Tryz.prog 25 [1, 1, 1, 1, 1, 1, 1] _ _ _ _
  rcases hS with ⟨rfl, cs, hcs, hS⟩ | ⟨rfl, rfl, hun⟩
  · skip
    refine To.seq (by kernel_rfl) ?_
    refine To.seq (by kernel_rfl) ?_
    refine To.region (by kernel_rfl) ?_
    refine Sg.go 1 (by kernel_rfl) ?_
    refine Sg.op (some 50) (by kernel_rfl) (jBin (b_neqF .i64 (x := (0 : Int)) (y := (0 : Int)) (by omega)) (by kernel_rfl)) ?_
    refine Sg.done (by kernel_rfl) ?_
    show To Tryz.prog 25 [1, 0, 1, 1, 1, 1, 1, 1, 1] _ _ _ _
    refine To.ifF (by kernel_rfl) (by kernel_rfl) ?_
    refine To.skip (by kernel_rfl) ?_
    show To Tryz.prog 25 [1, 1, 1, 1, 1, 1, 1, 1] _ _ _ _
    refine To.seq (by kernel_rfl) ?_
    refine To.region (by kernel_rfl) ?_
    refine Sg.op (some 52) (by kernel_rfl) (jLoadAE (off := 0) (sz := 3) (c := [.int .i64 ((k : Nat) : Int), .int .i64 ((sK k : Nat) : Int), .int .i64 2]) (s77.at 0 rfl) (by simp) rfl (by kernel_rfl)) ?_
    refine Sg.go 1 (by kernel_rfl) ?_
    refine Sg.op (some 54) (by kernel_rfl) (jLoad (off := 0) (x := .int .i64 ((N : Nat) : Int)) (s77.at 1 rfl) (by kernel_rfl) (by kernel_rfl)) ?_
    refine Sg.go 2 (by kernel_rfl) ?_
    obtain ⟨H78, s79, J80⟩ := jNewM s77 (.cells [.int .i64 ((k : Nat) : Int), .int .i64 ((sK k : Nat) : Int), .int .i64 2, .int .i64 0, .int .i64 ((N : Nat) : Int), g] true)
    refine Sg.op (some 57) (by kernel_rfl) (J80 _ _ (vf (.ptr (n71) (0))) (by kernel_rfl)) ?_
    refine Sg.go 2 (by kernel_rfl) ?_
    refine Sg.done (by kernel_rfl) ?_
    show To Tryz.prog 25 [1, 1, 1, 1, 1, 1, 1, 1, 1] _ _ _ _
    refine To.ret (by kernel_rfl) ?_
    exact ⟨.inr rfl, _, by kernel_rfl, _, _, s79.frz.1, hm0.tr s79.frz.2, _, _, rfl, .inl ⟨rfl, _, cs, rfl, ⟨g, upd_same _ _ _, hcs.mono s79.frz.2⟩, hS⟩⟩
  · skip
    refine To.seq (by kernel_rfl) ?_
    refine To.seq (by kernel_rfl) ?_
    refine To.region (by kernel_rfl) ?_
    refine Sg.go 1 (by kernel_rfl) ?_
    refine Sg.op (some 50) (by kernel_rfl) (jBin (b_neqT .i64 (x := (4 : Int)) (y := (0 : Int)) (by omega)) (by kernel_rfl)) ?_
    refine Sg.done (by kernel_rfl) ?_
    show To Tryz.prog 25 [1, 0, 1, 1, 1, 1, 1, 1, 1] _ _ _ _
    refine To.ifT (by kernel_rfl) (by kernel_rfl) ?_
    refine To.seq (by kernel_rfl) ?_
    refine To.region (by kernel_rfl) ?_
    refine Sg.go 3 (by kernel_rfl) ?_
    refine Sg.done (by kernel_rfl) ?_
    show To Tryz.prog 25 [1, 0, 1, 0, 1, 1, 1, 1, 1, 1, 1] _ _ _ _
    refine To.ret (by kernel_rfl) ?_
    exact ⟨.inr rfl, _, by kernel_rfl, X70, _, s77, hm0, _, _, rfl, .inr ⟨rfl, rfl, hun⟩⟩
theorem symbol_pure {X : Heap} {n : Nat} {b k N esi : Nat} (cs : List (List Nat)) (h1 : 1 ≤ k) (h8 : k ≤ 8) (hp : PartsOk k esi) (he : esi < 16777216) (hB : BlockV X b k N cs) (hcs : Mx (lK k) N cs) (hN0 : 0 < N) (hN : N ≤ 64) (ht : Top X n) : PureC 26 [vf (.ptr (b) (0)), vf (.int .i64 ((esi : Nat) : Int))] X n fun v X' => ∃ g, v = .tup [.f g, .f (.int .i64 0)] ∧ RowV X' g (comb N (rowE k esi) cs) := by
  refine PureC.of_to (by kernel_rfl) ?_
  have s0 := Sep.ini ht
  have hm0 : Mono X X := Mono.rfl
  obtain ⟨pf, hb, hc⟩ := hB
  refine To.seq (by kernel_rfl) ?_
  refine To.region (by kernel_rfl) ?_
  refine Sg.go 2 (by kernel_rfl) ?_
  refine Sg.done (by kernel_rfl) ?_
  show To Tryz.prog 26 [1] _ _ _ _
  refine To.seq (by kernel_rfl) ?_
  refine To.seq (by kernel_rfl) ?_
  refine To.region (by kernel_rfl) ?_
  refine Sg.go 4 (by kernel_rfl) ?_
  refine Sg.op (some 10) (by kernel_rfl) (jBin (b_lssF .i64 (x := ((esi : Nat) : Int)) (y := (0 : Int)) (by omega)) (by kernel_rfl)) ?_
  refine Sg.go 3 (by kernel_rfl) ?_
  refine Sg.op (some 14) (by kernel_rfl) (jBin (b_geqF .i64 (x := ((esi : Nat) : Int)) (y := (16777216 : Int)) (by omega)) (by kernel_rfl)) ?_
  refine Sg.go 1 (by kernel_rfl) ?_
  refine Sg.done (by kernel_rfl) ?_
  show To Tryz.prog 26 [1, 0, 1] _ _ _ _
  refine To.ifF (by kernel_rfl) (by kernel_rfl) ?_
  refine To.skip (by kernel_rfl) ?_
  show To Tryz.prog 26 [1, 1] _ _ _ _
  refine To.seq (by kernel_rfl) ?_
  refine To.draw [0, 1, 2, 3, 4, 5, 6, 7, 8, 9, 10, 11, 12, 13, 14, 15, 16, 17, 18, 19] progOk (by kernel_rfl) (by kernel_rfl) ?_
  refine Sd.go (L := [3, 4, 5, 6, 7, 8, 9, 10, 11, 12, 13, 14, 15, 16, 17, 18, 19]) [0, 1, 2] (by kernel_rfl) ?_
  refine Sd.read (some 19) (b) (by kernel_rfl) (by kernel_rfl) (by kernel_rfl) trivial (jLoadAE (off := 0) (sz := 3) (c := [.int .i64 ((k : Nat) : Int), .int .i64 ((sK k : Nat) : Int), .int .i64 2]) (s0.mono _ _ hb) (by simp) rfl (by kernel_rfl)) ?_
  refine Sd.go (L := [7, 8, 9, 10, 11, 12, 13, 14, 15, 16, 17, 18, 19]) [4, 5, 6] (by kernel_rfl) ?_
  refine Sd.read (some 23) (b) (by kernel_rfl) (by kernel_rfl) (by kernel_rfl) trivial (jLoad (off := 3) (x := .int .i64 0) (s0.mono _ _ hb) (by kernel_rfl) (by kernel_rfl)) ?_
  refine Sd.go (L := [11, 12, 13, 14, 15, 16, 17, 18, 19]) [8, 9, 10] (by kernel_rfl) ?_
  refine Sd.read (some 27) (b) (by kernel_rfl) (by kernel_rfl) (by kernel_rfl) trivial (jLoad (off := 4) (x := .int .i64 ((N : Nat) : Int)) (s0.mono _ _ hb) (by kernel_rfl) (by kernel_rfl)) ?_
  refine Sd.go (L := [15, 16, 17, 18, 19]) [12, 13, 14] (by kernel_rfl) ?_
  refine Sd.read (some 31) (b) (by kernel_rfl) (by kernel_rfl) (by kernel_rfl) trivial (jLoad (off := 5) (x := pf) (s0.mono _ _ hb) (by kernel_rfl) (by kernel_rfl)) ?_
  refine Sd.go (L := [17, 18, 19]) [16] (by kernel_rfl) ?_
  obtain ⟨_, X81, n82, hc83, hm84, ht85, ⟨g, rfl, hg⟩⟩ := (drop_pure cs h1 h8 hp hc hcs hN0 hN s0.topX : PureC 48 [.u (.agg [.int .i64 ((k : Nat) : Int), .int .i64 ((sK k : Nat) : Int), .int .i64 2]), vf (.int .i64 0), vf (.int .i64 ((N : Nat) : Int)), vf (pf), vf (.int .i64 ((esi : Nat) : Int))] X (n) _)
  obtain ⟨H86, hc87, s88⟩ := s0.call hc83 hm84 ht85
  have f89 := hm84 _ _ hb
  have hm0 := hm0.tr hm84
  have hc := hc.mono hm84
  refine Sd.eff (some 33) (by kernel_rfl) (by kernel_rfl) (jCall (by kernel_rfl) hc87 (by kernel_rfl)) ⟨.inl (by kernel_rfl), .inl (by kernel_rfl), .inl (by kernel_rfl), .inl (by kernel_rfl), trivial⟩ ?_
  refine Sd.go (L := []) [18, 19] (by kernel_rfl) ?_
  refine Sd.done ?_
  show To Tryz.prog 26 [1, 1, 1] _ _ _ _
  refine To.ret (by kernel_rfl) ?_
  exact ⟨.inr rfl, _, by kernel_rfl, X81, _, s88, hm0, _, rfl, hg⟩
end Go.Proofs.YtkimkgbppegkhaaGreat.Cm
