/- The clean machine's walks of symbols: sources, which number, a symbol made of the parts. -/
import Derived.Test.YtkimkgbppegkhaaGreatGg
namespace Go.Proofs.YtkimkgbppegkhaaGreat.Cm
open Go Go.RowKit Go.Proofs.YtkimkgbppegkhaaGreat.Gf
set_option maxRecDepth 1000000
noncomputable def eqNs : List Nat → List Nat → Bool
  | [], [] => true
  | a :: l, b :: k => Nat.beq a b && eqNs l k
  | _, _ => false
theorem eqNs_eq : ∀ {l k : List Nat}, eqNs l k = true → l = k
  | [], [], _ => rfl
  | a :: l, b :: k, h => by
    simp only [eqNs, Bool.and_eq_true] at h
    rw [Nat.eq_of_beq_eq_true h.1, eqNs_eq h.2]
  | [], _ :: _, h => by simp [eqNs] at h
  | _ :: _, [], h => by simp [eqNs] at h
noncomputable def srcB (k : Nat) : Bool := match intsO (evF 47 [vi k]) with | some l => eqNs l (List.range k) | none => false
theorem src_eight : eight srcB = true := by kernel_rfl
theorem sources_pure {X : Heap} {n k : Nat} (h1 : 1 ≤ k) (h8 : k ≤ 8) (ht : Top X n) : PureC 47 [vi k] X n fun v X' => ∃ g, v = vf g ∧ IntsV X' g (List.range k) := by
  have h := eight_of src_eight h1 h8
  unfold srcB at h
  split at h
  · rename_i l hl
    have := eqNs_eq h
    subst this
    exact ints_closed hl rfl ht
  · cases h
theorem find_pure {X : Heap} {n k : Nat} (h1 : 1 ≤ k) (h8 : k ≤ 8) (ht : Top X n) : PureC 45 [vi k] X n fun v _ => v = .tup [.f (.int .i64 0), .f (.int .i64 0)] := by
  have hH : ∀ i, n ≤ i → i < n + 100000 → X i = none := fun i h _ => ht i h
  have ht2 : Top X (n + 100000) := fun j hj => ht j (by omega)
  have : k = 1 ∨ k = 2 ∨ k = 3 ∨ k = 4 ∨ k = 5 ∨ k = 6 ∨ k = 7 ∨ k = 8 := by omega
  rcases this with rfl | rfl | rfl | rfl | rfl | rfl | rfl | rfl
  · exact ⟨_, _, _, find1 X n hH, Mono.rfl, ht2, rfl⟩
  · exact ⟨_, _, _, find2 X n hH, Mono.rfl, ht2, rfl⟩
  · exact ⟨_, _, _, find3 X n hH, Mono.rfl, ht2, rfl⟩
  · exact ⟨_, _, _, find4 X n hH, Mono.rfl, ht2, rfl⟩
  · exact ⟨_, _, _, find5 X n hH, Mono.rfl, ht2, rfl⟩
  · exact ⟨_, _, _, find6 X n hH, Mono.rfl, ht2, rfl⟩
  · exact ⟨_, _, _, find7 X n hH, Mono.rfl, ht2, rfl⟩
  · exact ⟨_, _, _, find8 X n hH, Mono.rfl, ht2, rfl⟩
theorem map_take_succ {l : List Nat} {f : Nat → List Nat} {i : Nat} (hi : i < l.length) : (l.take (i + 1)).map f = (l.take i).map f ++ [f l[i]] := by rw [take_snoc hi, List.map_append]; rfl
/-- so many of the first elements, and one row with ones: the sum of what stands there -/
theorem comb_set {N : Nat} : ∀ {r : List Nat} {cs : List (List Nat)} {x : Nat}, r.length = cs.length → x < r.length → r[x]? = some 0 → (∀ c ∈ cs, Rw N c) → B8 r → comb N (r.set x 1) cs = addR (comb N r cs) (rowN cs x)
  | a :: r, c :: cs, 0, hl, _, h0, hc, hb => by
    simp only [List.getElem?_cons_zero, Option.some.injEq] at h0
    subst h0
    have hcl := hc c (by simp)
    have ht := comb_rw (N := N) (r := r) (xs := cs) (fun y hy => hb y (by simp [hy])) (fun y hy => hc y (by simp [hy]))
    show addR (sca 1 c) (comb N r cs) = addR (addR (sca 0 c) (comb N r cs)) c
    have e := zs_addR (comb N r cs)
    rw [ht.1] at e
    rw [sca_one hcl.2, sca_zero, hcl.1, e, addR_comm (by rw [hcl.1, ht.1])]
  | a :: r, c :: cs, x + 1, hl, hx, h0, hc, hb => by
    have hcl := hc c (by simp)
    have hb' : B8 r := fun y hy => hb y (by simp [hy])
    have hc' : ∀ y ∈ cs, Rw N y := fun y hy => hc y (by simp [hy])
    have ih := comb_set (N := N) (r := r) (cs := cs) (x := x) (by simpa using hl) (by simpa using hx) (by simpa using h0) hc' hb'
    have ht := comb_rw (N := N) (r := r) (xs := cs) hb' hc'
    have e : rowN (c :: cs) (x + 1) = rowN cs x := by unfold rowN; simp
    have hxl : x < cs.length := by simp at hl hx; omega
    have hr : Rw N (rowN cs x) := by unfold rowN; rw [List.getElem?_eq_getElem hxl]; exact hc' _ (List.getElem_mem _)
    show addR (sca a c) (comb N (r.set x 1) cs) = addR (addR (sca a c) (comb N r cs)) (rowN (c :: cs) (x + 1))
    rw [ih, e, addR_assoc (by rw [sca_len, hcl.1, ht.1]) (by rw [ht.1, hr.1])]
  | [], _, _, _, hx, _, _, _ => by simp at hx
  | _ :: _, [], _, hl, _, _, _, _ => by simp at hl
theorem comb_fold {N W : Nat} {cs : List (List Nat)} (hl : cs.length = W) (hc : ∀ c ∈ cs, Rw N c) : ∀ {l r : List Nat}, Rw W r → l.Nodup → (∀ x ∈ l, r[x]? = some 0) → comb N (l.foldl (fun r x => r.set x 1) r) cs = (l.map (rowN cs)).foldl addR (comb N r cs)
  | [], r, _, _, _ => rfl
  | x :: l, r, hr, hn, h0 => by
    rw [List.nodup_cons] at hn
    have hx := h0 x (by simp)
    have hxl : x < r.length := by
      rcases Nat.lt_or_ge x r.length with h | h
      · exact h
      · rw [List.getElem?_eq_none h] at hx; cases hx
    simp only [List.foldl_cons, List.map_cons]
    rw [comb_fold hl hc (l := l) (r := r.set x 1) ⟨by rw [List.length_set]; exact hr.1, fun y hy => by
      rcases List.mem_or_eq_of_mem_set hy with h1 | rfl
      · exact hr.2 y h1
      · omega⟩ hn.2 fun y hy => by
        have hne : x ≠ y := fun e => hn.1 (by rw [e]; exact hy)
        rw [List.getElem?_set_ne hne]
        exact h0 y (by simp [hy]), comb_set (by rw [hr.1, hl]) hxl hx hc hr.2]
theorem comb_ones {N W : Nat} {cs : List (List Nat)} (hl : cs.length = W) (hc : ∀ c ∈ cs, Rw N c) {l : List Nat} (hn : l.Nodup) (hlt : ∀ x ∈ l, x < W) : comb N (ones W l) cs = sumRows N (l.map (rowN cs)) := by
  have h := comb_fold hl hc (l := l) (Rw.zs W) hn fun x hx => by rw [List.getElem?_replicate, if_pos (hlt x hx)]
  rw [comb_zs W hc] at h
  exact h

theorem drop_pure {X : Heap} {n : Nat} {k N esi : Nat} {fc : F} (cs : List (List Nat)) (h1 : 1 ≤ k) (h8 : k ≤ 8) (hp : PartsOk k esi) (hc : RowsV X fc cs) (hcs : Mx (lK k) N cs) (hN0 : 0 < N) (hN : N ≤ 64) (ht : Top X n) : PureC 48 [.u (.agg [.int .i64 ((k : Nat) : Int), .int .i64 ((sK k : Nat) : Int), .int .i64 2]), vf (.int .i64 0), vf (.int .i64 ((N : Nat) : Int)), vf (fc), vf (.int .i64 ((esi : Nat) : Int))] X n fun v X' => ∃ g, v = vf g ∧ RowV X' g (comb N (rowE k esi) cs) := by
  refine PureC.of_to (by kernel_rfl) ?_
  have s0 := Sep.ini ht
  have hm0 : Mono X X := Mono.rfl
  have hL := lK_le h8
  have hcl := hcs.1
  refine To.seq (by kernel_rfl) ?_
  refine To.region (by kernel_rfl) ?_
  obtain ⟨H1, s2, J3⟩ := jNewM s0 (.cells [.int .i64 ((k : Nat) : Int), .int .i64 ((sK k : Nat) : Int), .int .i64 2] true)
  refine Sg.op (some 5) (by kernel_rfl) (J3 _ _ (vf (.ptr (n) (0))) (by kernel_rfl)) ?_
  refine Sg.go 1 (by kernel_rfl) ?_
  refine Sg.done (by kernel_rfl) ?_
  show To Tryz.prog 48 [1] _ _ _ _
  refine To.seq (by kernel_rfl) ?_
  refine To.region (by kernel_rfl) ?_
  refine Sg.op (some 15) (by kernel_rfl) (jLoadAE (off := 0) (sz := 3) (c := [.int .i64 ((k : Nat) : Int), .int .i64 ((sK k : Nat) : Int), .int .i64 2]) (s2.at 0 rfl) (by simp) rfl (by kernel_rfl)) ?_
  refine Sg.go 2 (by kernel_rfl) ?_
  obtain ⟨_, X4, n5, hc6, hm7, ht8, ⟨pg, rfl, hpg⟩⟩ := (parts_pure hp s2.topX : PureC 71 [.u (.agg [.int .i64 ((k : Nat) : Int), .int .i64 ((sK k : Nat) : Int), .int .i64 2]), vf (.int .i64 0), vf (.int .i64 ((esi : Nat) : Int))] X (n + 1) _)
  obtain ⟨H9, hc10, s11⟩ := s2.call hc6 hm7 ht8
  have hm0 := hm0.tr hm7
  have hc := hc.mono hm7
  refine Sg.op (some 18) (by kernel_rfl) (jCall (by kernel_rfl) hc10 (by kernel_rfl)) ?_
  have hone := hp.one
  have hfew := hp.few
  refine Sg.go 1 (by kernel_rfl) ?_
  refine Sg.done (by kernel_rfl) ?_
  show To Tryz.prog 48 [1, 1] _ _ _ _
  refine To.seq (by kernel_rfl) ?_
  refine To.seq (by kernel_rfl) ?_
  refine To.region (by kernel_rfl) ?_
  refine Sg.go 1 (by kernel_rfl) ?_
  refine Sg.op (some 20) (by kernel_rfl) (jLenV (l := (partsN k esi).length) (hpg.lenA) (by kernel_rfl)) ?_
  refine Sg.op (some 21) (by kernel_rfl) (jBin (b_eqlF .i64 (x := (((partsN k esi).length : Nat) : Int)) (y := (0 : Int)) (by omega)) (by kernel_rfl)) ?_
  refine Sg.go 2 (by kernel_rfl) ?_
  refine Sg.op (some 24) (by kernel_rfl) (jLenV (l := cs.length) (hc.lenA) (by kernel_rfl)) ?_
  refine Sg.op (some 25) (by kernel_rfl) (jLoadAE (off := 0) (sz := 3) (c := [.int .i64 ((k : Nat) : Int), .int .i64 ((sK k : Nat) : Int), .int .i64 2]) (s11.at 0 rfl) (by simp) rfl (by kernel_rfl)) ?_
  obtain ⟨_, X12, n13, hc14, hm15, ht16, rfl⟩ := (l_pure h1 h8 s11.topX : PureC 68 [.u (.agg [.int .i64 ((k : Nat) : Int), .int .i64 ((sK k : Nat) : Int), .int .i64 2])] X4 (n5) _)
  obtain ⟨H17, hc18, s19⟩ := s11.call hc14 hm15 ht16
  have hm0 := hm0.tr hm15
  have hc := hc.mono hm15
  have hpg := hpg.mono hm15
  refine Sg.op (some 26) (by kernel_rfl) (jCall (by kernel_rfl) hc18 (by kernel_rfl)) ?_
  refine Sg.op (some 27) (by kernel_rfl) (jBin (b_neqF .i64 (x := ((cs.length : Nat) : Int)) (y := ((lK k : Nat) : Int)) (by omega)) (by kernel_rfl)) ?_
  refine Sg.go 3 (by kernel_rfl) ?_
  refine Sg.op (some 31) (by kernel_rfl) (jBin (b_lssF .i64 (x := ((N : Nat) : Int)) (y := (1 : Int)) (by omega)) (by kernel_rfl)) ?_
  refine Sg.go 3 (by kernel_rfl) ?_
  refine Sg.op (some 35) (by kernel_rfl) (jBin (b_gtrF .i64 (x := ((N : Nat) : Int)) (y := (64 : Int)) (by omega)) (by kernel_rfl)) ?_
  obtain ⟨pid, poff, pcap, rfl, hpa⟩ := hpg.sl (by omega)
  refine Sg.go 1 (by kernel_rfl) ?_
  refine Sg.done (by kernel_rfl) ?_
  show To Tryz.prog 48 [1, 0, 1, 1] _ _ _ _
  refine To.ifF (by kernel_rfl) (by kernel_rfl) ?_
  refine To.skip (by kernel_rfl) ?_
  show To Tryz.prog 48 [1, 1, 1] _ _ _ _
  refine To.seq (by kernel_rfl) ?_
  refine To.region (by kernel_rfl) ?_
  refine Sg.go 1 (by kernel_rfl) ?_
  refine Sg.done (by kernel_rfl) ?_
  show To Tryz.prog 48 [1, 1, 1, 1] _ _ _ _
  refine To.seq (by kernel_rfl) ?_
  refine To.seq (by kernel_rfl) ?_
  refine To.region (by kernel_rfl) ?_
  refine Sg.go 1 (by kernel_rfl) ?_
  refine Sg.op (some 38) (by kernel_rfl) (jLen (l := (partsN k esi).length) (by kernel_rfl)) ?_
  refine Sg.go 1 (by kernel_rfl) ?_
  refine Sg.done (by kernel_rfl) ?_
  show To Tryz.prog 48 [1, 0, 1, 1, 1, 1] _ _ _ _
  refine To.block 0 (by kernel_rfl) ?_
  refine To.loop (by kernel_rfl) ?_
  refine ToL.for ((partsN k esi).length) (fun i A Hq nq => ∃ (Y : Heap) (a : F) (fs : List F), AtL A [(2, vf (.int .i64 ((N : Nat) : Int))), (3, vf (fc)), (12, vf (a)), (37, vf (.sl (pid) (poff) 1 ((partsN k esi).length) pcap)), (38, vf (.int .i64 (((partsN k esi).length : Nat) : Int))), (39, vf (.int .i64 ((i : Nat) : Int)))] ∧ Sep Y Hq nq ([(n, .cells [.int .i64 ((k : Nat) : Int), .int .i64 ((sK k : Nat) : Int), .int .i64 2] true)] ++ (accM (a) (fs) ++ [])) ∧ (Mono X Y) ∧ (RowsV Y fc cs) ∧ (∀ (j x : Nat), (partsN k esi)[j]? = some x → atA Y pid (poff + j) (.int .i64 (x : Int))) ∧ (AccF 1 a fs) ∧ (All2 (RowV Y) fs (((partsN k esi).take i).map (rowN cs)))) ⟨X12, .sl0, [], getsL_spec (ts := [2, 3, 12, 37, 38, 39]) (by kernel_rfl), s19, (hm0), (hc), (hpa), (AccF.nil 1), (trivial)⟩ (fun i A H20 n21 hi hI => ?_) (fun A H20 n21 hI => ?_)
  · skip
    obtain ⟨Y, a, fs, hT, s22, hm0, hc, hpa, ha, hA⟩ := hI
    refine To.keep _ ?_ hT.sub
    have hx : (partsN k esi)[i]? = some (partsN k esi)[i] := List.getElem?_eq_getElem hi
    have hlt := hp.lt _ (List.getElem_mem hi)
    have hl := hA.length
    rw [List.length_map, List.length_take] at hl
    obtain ⟨cid, coff, ccap, gs, rfl, hG, hcat⟩ := hc.sl (by omega)
    obtain ⟨g, hg0, hg1⟩ := hG.row (i := (partsN k esi)[i]) (by omega)
    refine To.seq (by kernel_rfl) ?_
    refine To.region (by kernel_rfl) ?_
    refine Sg.op (some 40) (by kernel_rfl) (jBin (b_lssT .i64 (x := ((i : Nat) : Int)) (y := (((partsN k esi).length : Nat) : Int)) (by omega)) (by kernel_rfl)) ?_
    refine Sg.done (by kernel_rfl) ?_
    show To Tryz.prog 48 [1, 0, 0, 1, 0, 1, 1, 1, 1] _ _ _ _
    refine To.seq (by kernel_rfl) ?_
    refine To.ifT (by kernel_rfl) (by kernel_rfl) ?_
    refine To.skip (by kernel_rfl) ?_
    show To Tryz.prog 48 [1, 1, 0, 0, 1, 0, 1, 1, 1, 1] _ _ _ _
    refine To.seq (by kernel_rfl) ?_
    refine To.block 1 (by kernel_rfl) ?_
    refine To.seq (by kernel_rfl) ?_
    refine To.region (by kernel_rfl) ?_
    refine Sg.op (some 41) (by kernel_rfl) (jIdx (id := pid) (off := poff) (sz := 1) (len := (partsN k esi).length) (k := i) (by omega) (by kernel_rfl)) ?_
    refine Sg.op (some 42) (by kernel_rfl) (jLoadX (id := pid) (off := poff + i * 1) (x := .int .i64 (((partsN k esi)[i] : Nat) : Int)) (by rw [Nat.mul_one]; exact (hpa i _ hx).mono (s22.mono _)) (by kernel_rfl)) ?_
    refine Sg.go 1 (by kernel_rfl) ?_
    refine Sg.done (by kernel_rfl) ?_
    show To Tryz.prog 48 [1, 0, 0, 1, 1, 0, 0, 1, 0, 1, 1, 1, 1] _ _ _ _
    refine To.region (by kernel_rfl) ?_
    refine Sg.go 3 (by kernel_rfl) ?_
    refine Sg.op (some 46) (by kernel_rfl) (jIdx (id := cid) (off := coff) (sz := 1) (len := cs.length) (k := (partsN k esi)[i]) (by omega) (by kernel_rfl)) ?_
    refine Sg.op (some 47) (by kernel_rfl) (jLoadX (id := cid) (off := coff + ((partsN k esi)[i]) * 1) (x := g) (by rw [Nat.mul_one]; exact (hcat _ _ hg0).mono (s22.mono _)) (by kernel_rfl)) ?_
    obtain ⟨X23, H24, s25, m26, f27, J28⟩ := jNewF s22 (.cells [g] true)
    have hm0 := hm0.tr m26
    have hpa := fun j x h => (hpa j x h).mono (m26 _)
    have hc := hc.mono m26
    have hA := hA.mono fun _ _ q => q.mono m26
    have hg1 := hg1.mono m26
    refine Sg.op (some 48) (by kernel_rfl) (J28 _ _ (vf (.sl (n21) (0) 1 (1) none)) (by kernel_rfl)) ?_
    obtain ⟨a29, H30, n31, ha32, s33, J34⟩ := jAcc (sz := 1) (bytes := 24) (x := .sl (n21) (0) 1 (1) none) (fs := fs) (new := [g]) (M1 := [(n, .cells [.int .i64 ((k : Nat) : Int), .int .i64 ((sK k : Nat) : Int), .int .i64 2] true)]) s25 ha (row_all (s25.mono _ _ f27) rfl) (rfl) (by omega) (by omega)
    refine Sg.op (some 49) (by kernel_rfl) (J34 _ _ (by kernel_rfl)) ?_
    refine Sg.go 1 (by kernel_rfl) ?_
    refine Sg.done (by kernel_rfl) ?_
    show To Tryz.prog 48 [1, 1, 1, 0, 0, 1, 0, 1, 1, 1, 1] _ _ _ _
    refine To.region (by kernel_rfl) ?_
    refine Sg.op (some 50) (by kernel_rfl) (jBin (b_addN (i) (1) (by omega)) (by kernel_rfl)) ?_
    refine Sg.go 1 (by kernel_rfl) ?_
    refine Sg.done (by kernel_rfl) ?_
    exact .inl ⟨rfl, X23, _, _, getsL_spec (ts := [2, 3, 12, 37, 38, 39]) (by kernel_rfl), s33, (hm0), (hc), (hpa), (ha32), (by rw [map_take_succ hi]; exact hA.snoc hg1)⟩
  · skip
    obtain ⟨Y, a, fs, hT, s35, hm0, hc, hpa, ha, hA⟩ := hI
    refine To.keep _ ?_ hT.sub
    refine To.seq (by kernel_rfl) ?_
    refine To.region (by kernel_rfl) ?_
    refine Sg.op (some 40) (by kernel_rfl) (jBin (b_lssF .i64 (x := ((((partsN k esi).length) : Nat) : Int)) (y := (((partsN k esi).length : Nat) : Int)) (by simp)) (by kernel_rfl)) ?_
    refine Sg.done (by kernel_rfl) ?_
    show To Tryz.prog 48 [1, 0, 0, 1, 0, 1, 1, 1, 1] _ _ _ _
    obtain ⟨X36, m37, s38, hrow, _⟩ := Sep.acc (sz := 1) (M1 := [(n, .cells [.int .i64 ((k : Nat) : Int), .int .i64 ((sK k : Nat) : Int), .int .i64 2] true)]) (M2 := []) (a := a) (fs := fs) (by simpa using s35) ha
    have hm0 := hm0.tr m37
    have hpa := fun j x h => (hpa j x h).mono (m37 _)
    have hc := hc.mono m37
    have hA := hA.mono fun _ _ q => q.mono m37
    have s38 : Sep X36 H20 (n21) [(n, .cells [.int .i64 ((k : Nat) : Int), .int .i64 ((sK k : Nat) : Int), .int .i64 2] true)] := by simpa using s38
    refine To.seq (by kernel_rfl) ?_
    refine To.ifF (by kernel_rfl) (by kernel_rfl) ?_
    refine To.exit 0 (by kernel_rfl) ?_
    refine ⟨by simp, ?_⟩
    show To Tryz.prog 48 [1, 1, 1, 1, 1] _ _ _ _
    refine To.seq (by kernel_rfl) ?_
    refine To.region (by kernel_rfl) ?_
    refine Sg.go 2 (by kernel_rfl) ?_
    obtain ⟨_, X39, n40, hc41, hm42, ht43, ⟨y, rfl, hy⟩⟩ := (sum_pure (N := N) ((partsN k esi).map (rowN cs)) ⟨_, hrow, by rw [List.take_length] at hA; exact hA⟩ (by omega) (by simp; omega) s38.topX : PureC 65 [vf (.int .i64 ((N : Nat) : Int)), vf (a)] X36 (n21) _)
    obtain ⟨H44, hc45, s46⟩ := s38.call hc41 hm42 ht43
    have hm0 := hm0.tr hm42
    have hpa := fun j x h => (hpa j x h).mono (hm42 _)
    have hc := hc.mono hm42
    have hA := hA.mono fun _ _ q => q.mono hm42
    have hrow := rowA_mono hm42 hrow
    refine Sg.op (some 53) (by kernel_rfl) (jCall (by kernel_rfl) hc45 (by kernel_rfl)) ?_
    refine Sg.go 1 (by kernel_rfl) ?_
    refine Sg.done (by kernel_rfl) ?_
    show To Tryz.prog 48 [1, 1, 1, 1, 1, 1] _ _ _ _
    refine To.ret (by kernel_rfl) ?_
    exact ⟨.inr rfl, _, by kernel_rfl, X39, _, s46, hm0, y, rfl, by rw [comb_ones hcs.1 hcs.2 hp.nod hp.lt]; exact hy⟩
end Go.Proofs.YtkimkgbppegkhaaGreat.Cm
