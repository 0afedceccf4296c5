/- The clean machine's walks of symbols: a symbol's parts as a row, the matrix of a block. -/
import Derived.Test.YtkimkgbppegkhaaGreatCk
namespace Go.Proofs.YtkimkgbppegkhaaGreat.Cm
open Go Go.RowKit Go.Proofs.YtkimkgbppegkhaaGreat.Gf
set_option maxRecDepth 1000000
/-- a row with ones -/
def ones (N : Nat) (l : List Nat) : List Nat := l.foldl (fun r x => r.set x 1) (zs N)
theorem ones_rw (N : Nat) (l : List Nat) : Rw N (ones N l) := by
  have : ∀ (l : List Nat) (r : List Nat), Rw N r → Rw N (l.foldl (fun r x => r.set x 1) r) := by
    intro l
    induction l with
    | nil => intro r h; exact h
    | cons x l ih =>
      intro r h
      refine ih _ ⟨by rw [List.length_set]; exact h.1, fun y hy => ?_⟩
      rcases List.mem_or_eq_of_mem_set hy with h1 | rfl
      · exact h.2 y h1
      · omega
  exact this l _ (Rw.zs N)
theorem ones_snoc (N : Nat) (l : List Nat) (x : Nat) : ones N (l ++ [x]) = (ones N l).set x 1 := by simp [ones, List.foldl_append]
theorem splice_bset {l : List Nat} {i : Nat} (hi : i < l.length) : splice (bs l) (0 + i * 1) [.int .u8 1] = bs (l.set i 1) := by
  rw [splice_at (by rw [bs_len]; exact hi)]
  unfold bs
  rw [List.map_set]
  rfl

theorem row_pure {X : Heap} {n : Nat} {k esi : Nat} (h1 : 1 ≤ k) (h8 : k ≤ 8) (hp : PartsOk k esi) (ht : Top X n) : PureC 98 [.u (.agg [.int .i64 ((k : Nat) : Int), .int .i64 ((sK k : Nat) : Int), .int .i64 2]), vf (.int .i64 0), vf (.int .i64 ((esi : Nat) : Int))] X n fun v X' => ∃ g, v = vf g ∧ RowV X' g (ones (lK k) (partsN k esi)) := by
  refine PureC.of_to (by kernel_rfl) ?_
  have s0 := Sep.ini ht
  have hm0 : Mono X X := Mono.rfl
  refine To.seq (by kernel_rfl) ?_
  refine To.region (by kernel_rfl) ?_
  obtain ⟨H1, s2, J3⟩ := jNewM s0 (.cells [.int .i64 ((k : Nat) : Int), .int .i64 ((sK k : Nat) : Int), .int .i64 2] true)
  refine Sg.op (some 3) (by kernel_rfl) (J3 _ _ (vf (.ptr (n) (0))) (by kernel_rfl)) ?_
  refine Sg.go 1 (by kernel_rfl) ?_
  refine Sg.done (by kernel_rfl) ?_
  show To Tryz.prog 98 [1] _ _ _ _
  refine To.seq (by kernel_rfl) ?_
  refine To.region (by kernel_rfl) ?_
  refine Sg.op (some 11) (by kernel_rfl) (jLoadAE (off := 0) (sz := 3) (c := [.int .i64 ((k : Nat) : Int), .int .i64 ((sK k : Nat) : Int), .int .i64 2]) (s2.at 0 rfl) (by simp) rfl (by kernel_rfl)) ?_
  refine Sg.go 2 (by kernel_rfl) ?_
  obtain ⟨_, X4, n5, hc6, hm7, ht8, ⟨pg, rfl, hpg⟩⟩ := (parts_pure hp s2.topX : PureC 71 [.u (.agg [.int .i64 ((k : Nat) : Int), .int .i64 ((sK k : Nat) : Int), .int .i64 2]), vf (.int .i64 0), vf (.int .i64 ((esi : Nat) : Int))] X (n + 1) _)
  obtain ⟨H9, hc10, s11⟩ := s2.call hc6 hm7 ht8
  have hm0 := hm0.tr hm7
  refine Sg.op (some 14) (by kernel_rfl) (jCall (by kernel_rfl) hc10 (by kernel_rfl)) ?_
  have hone := hp.one
  have hfew := hp.few
  have hL := (lK_le h8).1
  obtain ⟨pid, poff, pcap, rfl, hpa0⟩ := hpg.sl (by omega)
  refine Sg.go 1 (by kernel_rfl) ?_
  refine Sg.done (by kernel_rfl) ?_
  show To Tryz.prog 98 [1, 1] _ _ _ _
  refine To.seq (by kernel_rfl) ?_
  refine To.seq (by kernel_rfl) ?_
  refine To.region (by kernel_rfl) ?_
  refine Sg.go 1 (by kernel_rfl) ?_
  refine Sg.op (some 16) (by kernel_rfl) (jLen (l := (partsN k esi).length) (by kernel_rfl)) ?_
  refine Sg.op (some 17) (by kernel_rfl) (jBin (b_eqlF .i64 (x := (((partsN k esi).length : Nat) : Int)) (y := (0 : Int)) (by omega)) (by kernel_rfl)) ?_
  refine Sg.done (by kernel_rfl) ?_
  show To Tryz.prog 98 [1, 0, 1, 1] _ _ _ _
  refine To.ifF (by kernel_rfl) (by kernel_rfl) ?_
  refine To.skip (by kernel_rfl) ?_
  show To Tryz.prog 98 [1, 1, 1] _ _ _ _
  refine To.seq (by kernel_rfl) ?_
  refine To.region (by kernel_rfl) ?_
  refine Sg.op (some 18) (by kernel_rfl) (jLoadAE (off := 0) (sz := 3) (c := [.int .i64 ((k : Nat) : Int), .int .i64 ((sK k : Nat) : Int), .int .i64 2]) (s11.at 0 rfl) (by simp) rfl (by kernel_rfl)) ?_
  obtain ⟨_, X12, n13, hc14, hm15, ht16, rfl⟩ := (l_pure h1 h8 s11.topX : PureC 68 [.u (.agg [.int .i64 ((k : Nat) : Int), .int .i64 ((sK k : Nat) : Int), .int .i64 2])] X4 (n5) _)
  obtain ⟨H17, hc18, s19⟩ := s11.call hc14 hm15 ht16
  have hm0 := hm0.tr hm15
  have hpg := hpg.mono hm15
  refine Sg.op (some 19) (by kernel_rfl) (jCall (by kernel_rfl) hc18 (by kernel_rfl)) ?_
  obtain ⟨H20, s21, J22⟩ := jMakeM (a := lK k) s19 ⟨1, 1, [.int .u8 0]⟩ (by simp only; omega) (cs := bs (zs (lK k))) (zeros_bs _)
  refine Sg.op (some 20) (by kernel_rfl) (J22 _ _ (by kernel_rfl)) ?_
  have hpa : ∀ (j x : Nat), (partsN k esi)[j]? = some x → atA X12 pid (poff + j) (.int .i64 (x : Int)) := fun j x h => by
    obtain ⟨id2, off2, cap2, e, h2⟩ := hpg.sl (by omega)
    cases e
    exact h2 j x h
  have sd := s21.del 1
  refine Sg.go 1 (by kernel_rfl) ?_
  refine Sg.done (by kernel_rfl) ?_
  show To Tryz.prog 98 [1, 1, 1, 1] _ _ _ _
  refine To.seq (by kernel_rfl) ?_
  refine To.seq (by kernel_rfl) ?_
  refine To.region (by kernel_rfl) ?_
  refine Sg.go 1 (by kernel_rfl) ?_
  refine Sg.op (some 22) (by kernel_rfl) (jLen (l := (partsN k esi).length) (by kernel_rfl)) ?_
  refine Sg.go 1 (by kernel_rfl) ?_
  refine Sg.done (by kernel_rfl) ?_
  show To Tryz.prog 98 [1, 0, 1, 1, 1, 1] _ _ _ _
  refine To.block 0 (by kernel_rfl) ?_
  refine To.loop (by kernel_rfl) ?_
  refine ToL.for ((partsN k esi).length) (fun i A Hq nq => ∃ (Y : Heap), AtL A [(8, vf (.sl (n13) (0) 1 (lK k) none)), (21, vf (.sl (pid) (poff) 1 ((partsN k esi).length) pcap)), (22, vf (.int .i64 (((partsN k esi).length : Nat) : Int))), (23, vf (.int .i64 ((i : Nat) : Int)))] ∧ Sep Y Hq nq [(n13, .cells (bs (ones (lK k) ((partsN k esi).take i))) true)] ∧ Mono X Y ∧ ∀ (j x : Nat), (partsN k esi)[j]? = some x → atA Y pid (poff + j) (.int .i64 (x : Int))) ⟨X12, getsL_spec (ts := [8, 21, 22, 23]) (by kernel_rfl), sd, (hm0), (hpa)⟩ (fun i A H23 n24 hi hI => ?_) (fun A H23 n24 hI => ?_)
  · skip
    obtain ⟨Y, hT, s25, hm0, hpa⟩ := hI
    refine To.keep _ ?_ hT.sub
    have hx : (partsN k esi)[i]? = some (partsN k esi)[i] := List.getElem?_eq_getElem hi
    have hlt := hp.lt _ (List.getElem_mem hi)
    refine To.seq (by kernel_rfl) ?_
    refine To.region (by kernel_rfl) ?_
    refine Sg.op (some 24) (by kernel_rfl) (jBin (b_lssT .i64 (x := ((i : Nat) : Int)) (y := (((partsN k esi).length : Nat) : Int)) (by omega)) (by kernel_rfl)) ?_
    refine Sg.done (by kernel_rfl) ?_
    show To Tryz.prog 98 [1, 0, 0, 1, 0, 1, 1, 1, 1] _ _ _ _
    refine To.seq (by kernel_rfl) ?_
    refine To.ifT (by kernel_rfl) (by kernel_rfl) ?_
    refine To.skip (by kernel_rfl) ?_
    show To Tryz.prog 98 [1, 1, 0, 0, 1, 0, 1, 1, 1, 1] _ _ _ _
    refine To.seq (by kernel_rfl) ?_
    refine To.block 1 (by kernel_rfl) ?_
    refine To.seq (by kernel_rfl) ?_
    refine To.region (by kernel_rfl) ?_
    refine Sg.op (some 25) (by kernel_rfl) (jIdx (id := pid) (off := poff) (sz := 1) (len := (partsN k esi).length) (k := i) (by omega) (by kernel_rfl)) ?_
    refine Sg.op (some 26) (by kernel_rfl) (jLoadX (id := pid) (off := poff + i * 1) (x := .int .i64 (((partsN k esi)[i] : Nat) : Int)) (by rw [Nat.mul_one]; exact (hpa i _ hx).mono (s25.mono _)) (by kernel_rfl)) ?_
    refine Sg.go 1 (by kernel_rfl) ?_
    refine Sg.done (by kernel_rfl) ?_
    show To Tryz.prog 98 [1, 0, 0, 1, 1, 0, 0, 1, 0, 1, 1, 1, 1] _ _ _ _
    refine To.region (by kernel_rfl) ?_
    refine Sg.go 2 (by kernel_rfl) ?_
    refine Sg.op (some 29) (by kernel_rfl) (jIdx (id := n13) (off := 0) (sz := 1) (len := lK k) (k := (partsN k esi)[i]) (by omega) (by kernel_rfl)) ?_
    obtain ⟨H26, s27, J28⟩ := jSet (off := 0 + ((partsN k esi)[i]) * 1) (new := [.int .u8 1]) (cs' := bs ((ones (lK k) ((partsN k esi).take i)).set (partsN k esi)[i] 1)) s25 0 rfl (by rw [bs_len, (ones_rw _ _).1]; simp; omega) (splice_bset (by rw [(ones_rw _ _).1]; exact hlt))
    have s27 : Sep Y H26 (n24) [(n13, .cells (bs ((ones (lK k) ((partsN k esi).take i)).set (partsN k esi)[i] 1)) true)] := s27
    refine Sg.op none (by kernel_rfl) (J28 _ _ (by kernel_rfl)) ?_
    refine Sg.done (by kernel_rfl) ?_
    show To Tryz.prog 98 [1, 1, 1, 0, 0, 1, 0, 1, 1, 1, 1] _ _ _ _
    refine To.region (by kernel_rfl) ?_
    refine Sg.op (some 30) (by kernel_rfl) (jBin (b_addN (i) (1) (by omega)) (by kernel_rfl)) ?_
    refine Sg.go 1 (by kernel_rfl) ?_
    refine Sg.done (by kernel_rfl) ?_
    exact .inl ⟨rfl, Y, getsL_spec (ts := [8, 21, 22, 23]) (by kernel_rfl), (by rw [take_snoc hi, ones_snoc]; exact s27), (hm0), (hpa)⟩
  · skip
    obtain ⟨Y, hT, s29, hm0, hpa⟩ := hI
    refine To.keep _ ?_ hT.sub
    refine To.seq (by kernel_rfl) ?_
    refine To.region (by kernel_rfl) ?_
    refine Sg.op (some 24) (by kernel_rfl) (jBin (b_lssF .i64 (x := ((((partsN k esi).length) : Nat) : Int)) (y := (((partsN k esi).length : Nat) : Int)) (by simp)) (by kernel_rfl)) ?_
    refine Sg.done (by kernel_rfl) ?_
    show To Tryz.prog 98 [1, 0, 0, 1, 0, 1, 1, 1, 1] _ _ _ _
    rw [List.take_length] at s29
    refine To.seq (by kernel_rfl) ?_
    refine To.ifF (by kernel_rfl) (by kernel_rfl) ?_
    refine To.exit 0 (by kernel_rfl) ?_
    refine ⟨by simp, ?_⟩
    show To Tryz.prog 98 [1, 1, 1, 1, 1] _ _ _ _
    refine To.seq (by kernel_rfl) ?_
    refine To.region (by kernel_rfl) ?_
    refine Sg.go 2 (by kernel_rfl) ?_
    refine Sg.done (by kernel_rfl) ?_
    show To Tryz.prog 98 [1, 1, 1, 1, 1, 1] _ _ _ _
    refine To.ret (by kernel_rfl) ?_
    exact ⟨.inr rfl, vf (.sl (n13) 0 1 (lK k) none), by kernel_rfl, _, _, s29.frz.1, hm0.tr s29.frz.2, _, rfl, row_all (upd_same _ _ _) (by rw [bs_len, (ones_rw _ _).1]; simp), (ones_rw _ _).2, by rw [(ones_rw _ _).1]; omega⟩
noncomputable abbrev rowE (k esi : Nat) : List Nat := ones (lK k) (partsN k esi)
/-- a block's rows -/
noncomputable def matK (k : Nat) (es : List Nat) : List (List Nat) := lowR k ++ highR k ++ es.map (rowE k)
theorem matK_mx {k : Nat} (h1 : 1 ≤ k) (h8 : k ≤ 8) (es : List Nat) : Mx (sK k + 2 + es.length) (lK k) (matK k es) := by
  have a := low_mx h1 h8
  have b := high_mx h1 h8
  refine ⟨by unfold matK; simp [a.1, b.1]; omega, fun r hr => ?_⟩
  unfold matK at hr
  rcases List.mem_append.1 hr with h | h
  · rcases List.mem_append.1 h with h | h
    · exact a.2 r h
    · exact b.2 r h
  · obtain ⟨e, _, rfl⟩ := List.mem_map.1 h
    exact ones_rw _ _
theorem matrix_pure {X : Heap} {n : Nat} {k : Nat} {fe : F} (es : List Nat) (h1 : 1 ≤ k) (h8 : k ≤ 8) (he : IntsV X fe es) (hps : ∀ e ∈ es, PartsOk k e) (hlt : es.length < 10000) (ht : Top X n) : PureC 69 [.u (.agg [.int .i64 ((k : Nat) : Int), .int .i64 ((sK k : Nat) : Int), .int .i64 2]), vf (.int .i64 0), vf (fe)] X n fun v X' => ∃ g, v = vf g ∧ RowsV X' g (matK k es) := by
  refine PureC.of_to (by kernel_rfl) ?_
  have s0 := Sep.ini ht
  have hm0 : Mono X X := Mono.rfl
  have hL := lK_le h8
  refine To.seq (by kernel_rfl) ?_
  refine To.region (by kernel_rfl) ?_
  obtain ⟨H30, s31, J32⟩ := jNewM s0 (.cells [.int .i64 ((k : Nat) : Int), .int .i64 ((sK k : Nat) : Int), .int .i64 2] true)
  refine Sg.op (some 3) (by kernel_rfl) (J32 _ _ (vf (.ptr (n) (0))) (by kernel_rfl)) ?_
  refine Sg.go 1 (by kernel_rfl) ?_
  refine Sg.done (by kernel_rfl) ?_
  show To Tryz.prog 69 [1] _ _ _ _
  refine To.seq (by kernel_rfl) ?_
  refine To.draw [0, 1, 2, 3, 4, 5] progOk (by kernel_rfl) (by kernel_rfl) ?_
  refine Sd.read (some 11) (n) (by kernel_rfl) (by kernel_rfl) (by kernel_rfl) trivial (jLoadAE (off := 0) (sz := 3) (c := [.int .i64 ((k : Nat) : Int), .int .i64 ((sK k : Nat) : Int), .int .i64 2]) (s31.at 0 rfl) (by simp) rfl (by kernel_rfl)) ?_
  obtain ⟨_, X33, H34, n35, _, hc37, hm38, s39, ⟨a1, fs1, rfl, rfl, ha1, hA1⟩⟩ := (low_make h1 h8 s31.topX : MakeC 96 [.u (.agg [.int .i64 ((k : Nat) : Int), .int .i64 ((sK k : Nat) : Int), .int .i64 2])] X (n + 1) _)
  obtain ⟨H40, hc41, s42⟩ := s31.callA hc37 hm38 s39
  have hm0 := hm0.tr hm38
  have he := he.mono hm38
  have s43 : Sep X33 H40 n35 ([(n, .cells [.int .i64 ((k : Nat) : Int), .int .i64 ((sK k : Nat) : Int), .int .i64 2] true)] ++ (accM (a1) (fs1) ++ [])) := by simpa using s42
  refine Sd.eff (some 12) (by kernel_rfl) (by kernel_rfl) (jCall (by kernel_rfl) hc41 (by kernel_rfl)) ⟨.inl (by kernel_rfl), trivial⟩ ?_
  refine Sd.read (some 13) (n) (by kernel_rfl) (by kernel_rfl) (by kernel_rfl) ⟨.inr ((s31.at 0 rfl).trans (s43.at 0 rfl).symm), trivial⟩ (jLoadAE (off := 0) (sz := 3) (c := [.int .i64 ((k : Nat) : Int), .int .i64 ((sK k : Nat) : Int), .int .i64 2]) (s43.at 0 rfl) (by simp) rfl (by kernel_rfl)) ?_
  obtain ⟨_, X44, H45, n46, _, hc48, hm49, s50, ⟨a2, fs2, rfl, rfl, ha2, hA2⟩⟩ := (high_make h1 h8 s43.topX : MakeC 97 [.u (.agg [.int .i64 ((k : Nat) : Int), .int .i64 ((sK k : Nat) : Int), .int .i64 2])] X33 (n35) _)
  obtain ⟨H51, hc52, s53⟩ := s43.callA hc48 hm49 s50
  have hm0 := hm0.tr hm49
  have he := he.mono hm49
  have hA1 := hA1.mono fun _ _ q => q.mono hm49
  have s54 : Sep X44 H51 n46 ([(n, .cells [.int .i64 ((k : Nat) : Int), .int .i64 ((sK k : Nat) : Int), .int .i64 2] true)] ++ (accM (a1) (fs1) ++ (accM (a2) (fs2) ++ []))) := by simpa using s53
  refine Sd.eff (some 14) (by kernel_rfl) (by kernel_rfl) (jCall (by kernel_rfl) hc52 (by kernel_rfl)) ⟨.inl (by kernel_rfl), .inl (by kernel_rfl), trivial⟩ ?_
  obtain ⟨X55, m56, s57, hrow2, _⟩ := Sep.acc (sz := 1) (M1 := ([(n, .cells [.int .i64 ((k : Nat) : Int), .int .i64 ((sK k : Nat) : Int), .int .i64 2] true)] ++ accM (a1) (fs1))) (M2 := []) (a := a2) (fs := fs2) (by simpa using s54) ha2
  have hm0 := hm0.tr m56
  have he := he.mono m56
  have hA1 := hA1.mono fun _ _ q => q.mono m56
  have hA2 := hA2.mono fun _ _ q => q.mono m56
  have s57 : Sep X55 H51 (n46) ([(n, .cells [.int .i64 ((k : Nat) : Int), .int .i64 ((sK k : Nat) : Int), .int .i64 2] true)] ++ (accM (a1) (fs1) ++ [])) := by simpa using s57
  have hl1 : fs1.length = sK k := by rw [← hA1.length]; exact (low_mx h1 h8).1
  have hl2 : fs2.length = 2 := by rw [← hA2.length]; exact (high_mx h1 h8).1
  obtain ⟨a58, H59, n60, ha61, s62, J63⟩ := jAcc (sz := 1) (bytes := 24) (x := a2) (fs := fs1) (new := fs2) (M1 := [(n, .cells [.int .i64 ((k : Nat) : Int), .int .i64 ((sK k : Nat) : Int), .int .i64 2] true)]) s57 ha1 (rowA_mono s57.mono hrow2) (rowA_len1 hrow2) (by omega) (by omega)
  refine Sd.eff (some 15) (by kernel_rfl) (by kernel_rfl) (J63 _ _ (by kernel_rfl)) ⟨.inl (by kernel_rfl), .inl (by kernel_rfl), trivial⟩ ?_
  have hAB := All2.append hA1 hA2
  refine Sd.go (L := []) [5] (by kernel_rfl) ?_
  refine Sd.done ?_
  show To Tryz.prog 69 [1, 1] _ _ _ _
  refine To.seq (by kernel_rfl) ?_
  refine To.seq (by kernel_rfl) ?_
  refine To.region (by kernel_rfl) ?_
  refine Sg.go 1 (by kernel_rfl) ?_
  refine Sg.op (some 17) (by kernel_rfl) (jLenV (l := es.length) (he.lenA) (by kernel_rfl)) ?_
  refine Sg.go 1 (by kernel_rfl) ?_
  refine Sg.done (by kernel_rfl) ?_
  show To Tryz.prog 69 [1, 0, 1, 1] _ _ _ _
  refine To.block 0 (by kernel_rfl) ?_
  refine To.loop (by kernel_rfl) ?_
  refine ToL.for (es.length) (fun i A Hq nq => ∃ (Y : Heap) (a : F) (fs : List F), AtL A [(1, vf (.int .i64 0)), (3, vf (.ptr (n) (0))), (7, vf (a)), (16, vf (fe)), (17, vf (.int .i64 ((es.length : Nat) : Int))), (18, vf (.int .i64 ((i : Nat) : Int)))] ∧ Sep Y Hq nq ([(n, .cells [.int .i64 ((k : Nat) : Int), .int .i64 ((sK k : Nat) : Int), .int .i64 2] true)] ++ (accM (a) (fs) ++ [])) ∧ Mono X Y ∧ IntsV Y fe es ∧ AccF 1 a fs ∧ All2 (RowV Y) fs (lowR k ++ highR k ++ (es.take i).map (rowE k))) ⟨X55, a58, (fs1 ++ fs2), getsL_spec (ts := [1, 3, 7, 16, 17, 18]) (by kernel_rfl), s62, (hm0), (he), (ha61), (by rw [List.take_zero, List.map_nil, List.append_nil]; exact hAB)⟩ (fun i A H64 n65 hi hI => ?_) (fun A H64 n65 hI => ?_)
  · skip
    obtain ⟨Y, a, fs, hT, s66, hm0, he, ha, hA⟩ := hI
    refine To.keep _ ?_ hT.sub
    obtain ⟨eid, eoff, ecap, rfl, hea⟩ := he.sl (by omega)
    have hx : es[i]? = some es[i] := List.getElem?_eq_getElem hi
    have hp := hps _ (List.getElem_mem hi)
    have hlf : fs.length = sK k + 2 + i := by have := hA.length; rw [List.length_append, List.length_append, (low_mx h1 h8).1, (high_mx h1 h8).1, List.length_map, List.length_take] at this; omega
    refine To.seq (by kernel_rfl) ?_
    refine To.region (by kernel_rfl) ?_
    refine Sg.op (some 19) (by kernel_rfl) (jBin (b_lssT .i64 (x := ((i : Nat) : Int)) (y := ((es.length : Nat) : Int)) (by omega)) (by kernel_rfl)) ?_
    refine Sg.done (by kernel_rfl) ?_
    show To Tryz.prog 69 [1, 0, 0, 1, 0, 1, 1] _ _ _ _
    refine To.seq (by kernel_rfl) ?_
    refine To.ifT (by kernel_rfl) (by kernel_rfl) ?_
    refine To.skip (by kernel_rfl) ?_
    show To Tryz.prog 69 [1, 1, 0, 0, 1, 0, 1, 1] _ _ _ _
    refine To.seq (by kernel_rfl) ?_
    refine To.block 1 (by kernel_rfl) ?_
    refine To.seq (by kernel_rfl) ?_
    refine To.region (by kernel_rfl) ?_
    refine Sg.op (some 20) (by kernel_rfl) (jIdx (id := eid) (off := eoff) (sz := 1) (len := es.length) (k := i) (by omega) (by kernel_rfl)) ?_
    refine Sg.op (some 21) (by kernel_rfl) (jLoadX (id := eid) (off := eoff + i * 1) (x := .int .i64 ((es[i] : Nat) : Int)) (by rw [Nat.mul_one]; exact (hea i _ hx).mono (s66.mono _)) (by kernel_rfl)) ?_
    refine Sg.go 1 (by kernel_rfl) ?_
    refine Sg.done (by kernel_rfl) ?_
    show To Tryz.prog 69 [1, 0, 0, 1, 1, 0, 0, 1, 0, 1, 1] _ _ _ _
    refine To.seq (by kernel_rfl) ?_
    refine To.region (by kernel_rfl) ?_
    refine Sg.op (some 22) (by kernel_rfl) (jLoadAE (off := 0) (sz := 3) (c := [.int .i64 ((k : Nat) : Int), .int .i64 ((sK k : Nat) : Int), .int .i64 2]) (s66.at 0 rfl) (by simp) rfl (by kernel_rfl)) ?_
    refine Sg.go 2 (by kernel_rfl) ?_
    obtain ⟨_, X67, n68, hc69, hm70, ht71, ⟨g, rfl, hg⟩⟩ := (row_pure h1 h8 hp s66.topX : PureC 98 [.u (.agg [.int .i64 ((k : Nat) : Int), .int .i64 ((sK k : Nat) : Int), .int .i64 2]), vf (.int .i64 0), vf (.int .i64 ((es[i] : Nat) : Int))] Y (n65) _)
    obtain ⟨H72, hc73, s74⟩ := s66.call hc69 hm70 ht71
    have hm0 := hm0.tr hm70
    have he := he.mono hm70
    have hA := hA.mono fun _ _ q => q.mono hm70
    refine Sg.op (some 25) (by kernel_rfl) (jCall (by kernel_rfl) hc73 (by kernel_rfl)) ?_
    refine Sg.go 1 (by kernel_rfl) ?_
    refine Sg.done (by kernel_rfl) ?_
    show To Tryz.prog 69 [1, 1, 0, 0, 1, 1, 0, 0, 1, 0, 1, 1] _ _ _ _
    refine To.seq (by kernel_rfl) ?_
    refine To.seq (by kernel_rfl) ?_
    refine To.region (by kernel_rfl) ?_
    refine Sg.go 1 (by kernel_rfl) ?_
    refine Sg.op (some 27) (by kernel_rfl) (jLenV (l := (rowE k es[i]).length) (hg.lenA) (by kernel_rfl)) ?_
    have hgl : (rowE k es[i]).length = lK k := (ones_rw _ _).1
    refine Sg.op (some 28) (by kernel_rfl) (jBin (b_eqlF .i64 (x := (((rowE k es[i]).length : Nat) : Int)) (y := (0 : Int)) (by omega)) (by kernel_rfl)) ?_
    refine Sg.done (by kernel_rfl) ?_
    show To Tryz.prog 69 [1, 0, 1, 1, 0, 0, 1, 1, 0, 0, 1, 0, 1, 1] _ _ _ _
    refine To.ifF (by kernel_rfl) (by kernel_rfl) ?_
    refine To.skip (by kernel_rfl) ?_
    show To Tryz.prog 69 [1, 1, 1, 0, 0, 1, 1, 0, 0, 1, 0, 1, 1] _ _ _ _
    refine To.region (by kernel_rfl) ?_
    refine Sg.go 2 (by kernel_rfl) ?_
    obtain ⟨X75, H76, s77, m78, f79, J80⟩ := jNewF s74 (.cells [g] true)
    have hm0 := hm0.tr m78
    have he := he.mono m78
    have hA := hA.mono fun _ _ q => q.mono m78
    have hg := hg.mono m78
    refine Sg.op (some 31) (by kernel_rfl) (J80 _ _ (vf (.sl (n68) (0) 1 (1) none)) (by kernel_rfl)) ?_
    obtain ⟨a81, H82, n83, ha84, s85, J86⟩ := jAcc (sz := 1) (bytes := 24) (x := .sl (n68) (0) 1 (1) none) (fs := fs) (new := [g]) (M1 := [(n, .cells [.int .i64 ((k : Nat) : Int), .int .i64 ((sK k : Nat) : Int), .int .i64 2] true)]) s77 ha (row_all (s77.mono _ _ f79) rfl) (rfl) (by omega) (by omega)
    refine Sg.op (some 32) (by kernel_rfl) (J86 _ _ (by kernel_rfl)) ?_
    refine Sg.go 1 (by kernel_rfl) ?_
    refine Sg.done (by kernel_rfl) ?_
    show To Tryz.prog 69 [1, 1, 1, 0, 0, 1, 0, 1, 1] _ _ _ _
    refine To.region (by kernel_rfl) ?_
    refine Sg.op (some 33) (by kernel_rfl) (jBin (b_addN (i) (1) (by omega)) (by kernel_rfl)) ?_
    refine Sg.go 1 (by kernel_rfl) ?_
    refine Sg.done (by kernel_rfl) ?_
    exact .inl ⟨rfl, X75, _, _, getsL_spec (ts := [1, 3, 7, 16, 17, 18]) (by kernel_rfl), s85, (hm0), (he), (ha84), (by rw [take_snoc hi, List.map_append, ← List.append_assoc]; exact hA.snoc hg)⟩
  · skip
    obtain ⟨Y, a, fs, hT, s87, hm0, he, ha, hA⟩ := hI
    refine To.keep _ ?_ hT.sub
    refine To.seq (by kernel_rfl) ?_
    refine To.region (by kernel_rfl) ?_
    refine Sg.op (some 19) (by kernel_rfl) (jBin (b_lssF .i64 (x := (((es.length) : Nat) : Int)) (y := ((es.length : Nat) : Int)) (by simp)) (by kernel_rfl)) ?_
    refine Sg.done (by kernel_rfl) ?_
    show To Tryz.prog 69 [1, 0, 0, 1, 0, 1, 1] _ _ _ _
    obtain ⟨X88, m89, s90, hrow, _⟩ := Sep.acc (sz := 1) (M1 := [(n, .cells [.int .i64 ((k : Nat) : Int), .int .i64 ((sK k : Nat) : Int), .int .i64 2] true)]) (M2 := []) (a := a) (fs := fs) (by simpa using s87) ha
    have hm0 := hm0.tr m89
    have he := he.mono m89
    have hA := hA.mono fun _ _ q => q.mono m89
    have s90 : Sep X88 H64 (n65) [(n, .cells [.int .i64 ((k : Nat) : Int), .int .i64 ((sK k : Nat) : Int), .int .i64 2] true)] := by simpa using s90
    refine To.seq (by kernel_rfl) ?_
    refine To.ifF (by kernel_rfl) (by kernel_rfl) ?_
    refine To.exit 0 (by kernel_rfl) ?_
    refine ⟨by simp, ?_⟩
    show To Tryz.prog 69 [1, 1, 1] _ _ _ _
    refine To.seq (by kernel_rfl) ?_
    refine To.seq (by kernel_rfl) ?_
    refine To.region (by kernel_rfl) ?_
    refine Sg.go 1 (by kernel_rfl) ?_
    refine Sg.op (some 35) (by kernel_rfl) (jBin (b_lssF .i64 (x := (0 : Int)) (y := (0 : Int)) (by omega)) (by kernel_rfl)) ?_
    refine Sg.go 2 (by kernel_rfl) ?_
    refine Sg.op (some 38) (by kernel_rfl) (jBin (b_gtrF .i64 (x := (0 : Int)) (y := (255 : Int)) (by omega)) (by kernel_rfl)) ?_
    refine Sg.go 1 (by kernel_rfl) ?_
    refine Sg.done (by kernel_rfl) ?_
    show To Tryz.prog 69 [1, 0, 1, 1, 1] _ _ _ _
    refine To.ifF (by kernel_rfl) (by kernel_rfl) ?_
    refine To.skip (by kernel_rfl) ?_
    show To Tryz.prog 69 [1, 1, 1, 1] _ _ _ _
    refine To.seq (by kernel_rfl) ?_
    refine To.region (by kernel_rfl) ?_
    refine Sg.go 2 (by kernel_rfl) ?_
    refine Sg.done (by kernel_rfl) ?_
    show To Tryz.prog 69 [1, 1, 1, 1, 1] _ _ _ _
    refine To.ret (by kernel_rfl) ?_
    exact ⟨.inr rfl, _, by kernel_rfl, X88, _, s90, hm0, _, rfl, _, hrow, by rw [List.take_length] at hA; exact hA⟩
end Go.Proofs.YtkimkgbppegkhaaGreat.Cm
