/- The clean machine's walks of blocks: their parts. -/
import Derived.Test.YtkimkgbppegkhaaGreatGe
namespace Go.Proofs.YtkimkgbppegkhaaGreat.Cm
open Go Go.RowKit Go.Proofs.YtkimkgbppegkhaaGreat.Gf
set_option maxRecDepth 1000000
/-- append to a block that is known whole -/
theorem jApW {X H : Heap} {n sz bytes m id len : Nat} {M : List (Nat × O)} {x : F} {cs new : List F} (s : Sep X H n ((id, .cells cs true) :: M)) (hl : cs.length = len * sz) (hx : rowA H sz x = some new) (hm : lenA x = some m) (hsz : 0 < sz) (hb : (len + m) * bytes * 2 ≤ 140737488355328) :
    ∃ a X' H' n', Sep X' H' n' M ∧ Mono X X' ∧ rowA X' sz a = some (cs ++ new) ∧ ∀ (o : Oper) (r : Operand → Option V), apK Tryz.prog o r = some (sz, bytes, .sl id 0 sz len none, x) → OpJ Tryz.prog o r H n (vf a) H' n' := by
  have hid := s.at 0 rfl
  have hnew : new.length = m * sz := by
    obtain ⟨m', h1, h2⟩ := rowA_len hx
    rw [hm] at h1; cases h1; exact h2
  obtain ⟨s1, m1⟩ := s.frz
  by_cases h0 : m = 0
  · have hn0 : new = [] := List.eq_nil_of_length_eq_zero (by rw [hnew, h0]; simp)
    subst hn0
    refine ⟨.sl id 0 sz len none, _, H, n, s1, m1, by rw [List.append_nil]; exact row_all (upd_same _ _ _) hl.symm, fun o r hk => ?_⟩
    have := jApp (n := n) hx hm (ef := (vf (.sl id 0 sz (len + m) none), [(id, some (.cells (splice cs (0 + len * sz) []) true))], 0)) (bytes := bytes) (s := .sl id 0 sz len none) (by
      simp only [appendA, if_true, hid]
      rw [if_pos (by omega), if_pos hb, if_pos (by rw [h0]; simp; omega)]) hk
    rw [splice_nil, h0] at this
    simp only [app, Nat.add_zero] at this
    rw [upd_self hid] at this
    exact this
  · have hmpos : 0 < m * sz := Nat.mul_pos (by omega) hsz
    refine ⟨.sl n 0 sz (len + m) none, _, _, n + 1, s1.newF (.cells (cs ++ new) false), m1.tr (s1.newX _), row_all (upd_same _ _ _) (by rw [List.length_append, hl, hnew, Nat.add_mul]), fun o r hk => ?_⟩
    have := jApp (n := n) hx hm (ef := (vf (.sl n 0 sz (len + m) none), [(n, some (.cells ((cs.drop 0).take (len * sz) ++ new) false))], 1)) (bytes := bytes) (s := .sl id 0 sz len none) (by
      have e1 : ¬ (0 + (len + m) * sz ≤ cs.length) := by rw [Nat.add_mul]; omega
      simp only [appendA, if_true, hid]
      rw [if_pos (by omega), if_pos hb, if_neg e1]) hk
    rw [List.drop_zero, List.take_of_length_le (by omega)] at this
    exact this
theorem repeatL_one (x : F) : ∀ (k : Nat), repeatL [x] k = List.replicate k x
  | 0 => rfl
  | k + 1 => by rw [repeatL, repeatL_one x k]; rfl
theorem nils_rows {X : Heap} : ∀ (k : Nat), All2 (RowV X) (List.replicate k F.sl0) (List.replicate k [])
  | 0 => trivial
  | k + 1 => ⟨⟨rfl, fun x hx => (by cases hx), by simp⟩, nils_rows k⟩
theorem fit_id {len N : Nat} {rs : List (List Nat)} (h : Mx len N rs) : rs.map (fun r => sumRows N [r]) = rs := by
  conv => rhs; rw [← List.map_id rs]
  exact List.map_congr_left fun r hr => sumRows_id (h.2 r hr)
theorem fit_nils (k N : Nat) : (List.replicate k []).map (fun r => sumRows N [r]) = List.replicate k (zs N) := by
  rw [List.map_replicate]
  congr 1
  exact addR_nil _
/-- what stands beside a block's rows -/
def besK (k N : Nat) (ds : List (List Nat)) : List (List Nat) := List.replicate (sK k + 2) (zs N) ++ ds
theorem besK_mx {k N : Nat} {es : List Nat} {ds : List (List Nat)} (h : Mx es.length N ds) : Mx (sK k + 2 + es.length) N (besK k N ds) := ⟨by unfold besK; simp [h.1], fun r hr => by
  unfold besK at hr
  rcases List.mem_append.1 hr with h1 | h1
  · rw [List.eq_of_mem_replicate h1]; exact Rw.zs N
  · exact h.2 r h1⟩

theorem bparts_pure {X : Heap} {n : Nat} {k N : Nat} {fe fd : F} (es : List Nat) (ds : List (List Nat)) (h1 : 1 ≤ k) (h8 : k ≤ 8) (he : IntsV X fe es) (hps : ∀ e ∈ es, PartsOk k e) (hlt : es.length < 10000) (hd : RowsV X fd ds) (hds : Mx es.length N ds) (hN0 : 0 < N) (hN : N ≤ 1000) (ht : Top X n) : PureC 46 [.u (.agg [.int .i64 ((k : Nat) : Int), .int .i64 ((sK k : Nat) : Int), .int .i64 2]), vf (.int .i64 0), vf (.int .i64 ((N : Nat) : Int)), vf (fe), vf (fd)] X n fun v X' => ∃ g e, v = .tup [.f g, .f (.int .i64 e)] ∧ ((e = 0 ∧ ∃ out, RowsV X' g out ∧ Solved (lK k) N (sK k + 2 + es.length) (matK k es) (besK k N ds) out) ∨ (e = 4 ∧ g = .sl0 ∧ Unsolved (lK k) N (sK k + 2 + es.length) (matK k es) (besK k N ds))) := by
  refine PureC.of_to (by kernel_rfl) ?_
  have s0 := Sep.ini ht
  have hm0 : Mono X X := Mono.rfl
  obtain ⟨fds, hdr, hdA⟩ := hd
  have hfl : fds.length = es.length := by rw [← hdA.length]; exact hds.1
  have hL := lK_le h8
  have hdl := hds.1
  refine To.seq (by kernel_rfl) ?_
  refine To.region (by kernel_rfl) ?_
  obtain ⟨H1, s2, J3⟩ := jNewM s0 (.cells [.int .i64 ((k : Nat) : Int), .int .i64 ((sK k : Nat) : Int), .int .i64 2] true)
  refine Sg.op (some 5) (by kernel_rfl) (J3 _ _ (vf (.ptr (n) (0))) (by kernel_rfl)) ?_
  refine Sg.go 2 (by kernel_rfl) ?_
  refine Sg.done (by kernel_rfl) ?_
  show To Tryz.prog 46 [1] _ _ _ _
  refine To.seq (by kernel_rfl) ?_
  refine To.region (by kernel_rfl) ?_
  refine Sg.go 1 (by kernel_rfl) ?_
  refine Sg.op (some 14) (by kernel_rfl) (jLoad (off := 1) (x := .int .i64 ((sK k : Nat) : Int)) (s2.at 0 rfl) (by kernel_rfl) (by kernel_rfl)) ?_
  refine Sg.go 1 (by kernel_rfl) ?_
  refine Sg.op (some 16) (by kernel_rfl) (jLoad (off := 2) (x := .int .i64 2) (s2.at 0 rfl) (by kernel_rfl) (by kernel_rfl)) ?_
  refine Sg.op (some 17) (by kernel_rfl) (jBin (b_addN (sK k) (2) (by omega)) (by kernel_rfl)) ?_
  obtain ⟨H4, s5, J6⟩ := jMakeM (a := sK k + 2) s2 ⟨1, 24, [.sl0]⟩ (by simp only; omega) (cs := List.replicate (sK k + 2) F.sl0) (repeatL_one _ _)
  refine Sg.op (some 18) (by kernel_rfl) (J6 _ _ (by kernel_rfl)) ?_
  refine Sg.go 1 (by kernel_rfl) ?_
  refine Sg.done (by kernel_rfl) ?_
  show To Tryz.prog 46 [1, 1] _ _ _ _
  refine To.seq (by kernel_rfl) ?_
  refine To.draw [0, 1, 3, 4, 5, 6, 7, 8, 9, 2, 10, 11, 12, 13, 14] progOk (by kernel_rfl) (by kernel_rfl) ?_
  refine Sd.read (some 19) (n) (by kernel_rfl) (by kernel_rfl) (by kernel_rfl) trivial (jLoadAE (off := 0) (sz := 3) (c := [.int .i64 ((k : Nat) : Int), .int .i64 ((sK k : Nat) : Int), .int .i64 2]) (s5.at 1 rfl) (by simp) rfl (by kernel_rfl)) ?_
  obtain ⟨_, X7, n8, hc9, hm10, ht11, rfl⟩ := (l_pure h1 h8 s5.topX : PureC 68 [.u (.agg [.int .i64 ((k : Nat) : Int), .int .i64 ((sK k : Nat) : Int), .int .i64 2])] X (n + 1 + 1) _)
  obtain ⟨H12, hc13, s14⟩ := s5.call hc9 hm10 ht11
  have hm0 := hm0.tr hm10
  have hdr := rowA_mono hm10 hdr
  have he := he.mono hm10
  have hdA := hdA.mono fun _ _ q => q.mono hm10
  refine Sd.eff (some 20) (by kernel_rfl) (by kernel_rfl) (jCall (by kernel_rfl) hc13 (by kernel_rfl)) ⟨.inl (by kernel_rfl), trivial⟩ ?_
  refine Sd.read (some 22) (n) (by kernel_rfl) (by kernel_rfl) (by kernel_rfl) ⟨.inr ((s5.at 1 rfl).trans (s14.at 1 rfl).symm), trivial⟩ (jLoadAE (off := 0) (sz := 3) (c := [.int .i64 ((k : Nat) : Int), .int .i64 ((sK k : Nat) : Int), .int .i64 2]) (s14.at 1 rfl) (by simp) rfl (by kernel_rfl)) ?_
  refine Sd.go (L := [6, 7, 8, 9, 2, 10, 11, 12, 13, 14]) [4, 5] (by kernel_rfl) ?_
  obtain ⟨_, X15, n16, hc17, hm18, ht19, ⟨gm, rfl, hgm⟩⟩ := (matrix_pure es h1 h8 he hps hlt s14.topX : PureC 69 [.u (.agg [.int .i64 ((k : Nat) : Int), .int .i64 ((sK k : Nat) : Int), .int .i64 2]), vf (.int .i64 0), vf (fe)] X7 (n8) _)
  obtain ⟨H20, hc21, s22⟩ := s14.call hc17 hm18 ht19
  have hm0 := hm0.tr hm18
  have hdr := rowA_mono hm18 hdr
  have he := he.mono hm18
  have hdA := hdA.mono fun _ _ q => q.mono hm18
  refine Sd.eff (some 25) (by kernel_rfl) (by kernel_rfl) (jCall (by kernel_rfl) hc21 (by kernel_rfl)) ⟨.inl (by kernel_rfl), .inl (by kernel_rfl), trivial⟩ ?_
  refine Sd.go (L := [9, 2, 10, 11, 12, 13, 14]) [7, 8] (by kernel_rfl) ?_
  obtain ⟨a28, X23, H24, n25, s26, m27, hbr, J29⟩ := jApW (sz := 1) (bytes := 24) (m := fds.length) (len := sK k + 2) (x := fd) s22 (by simp) (rowA_mono s22.mono hdr) (rowA_len1 hdr) (by omega) (by omega)
  have hm0 := hm0.tr m27
  have hdr := rowA_mono m27 hdr
  have he := he.mono m27
  have hdA := hdA.mono fun _ _ q => q.mono m27
  have hgm := hgm.mono m27
  refine Sd.eff (some 28) (by kernel_rfl) (by kernel_rfl) (J29 _ _ (by kernel_rfl)) ⟨.inl (by kernel_rfl), .inl (by kernel_rfl), trivial⟩ ?_
  have hall : RowsV X23 _ (List.replicate (sK k + 2) [] ++ ds) := ⟨_, hbr, All2.append (nils_rows _) hdA⟩
  refine Sd.go (L := [10, 11, 12, 13, 14]) [2] (by kernel_rfl) ?_
  obtain ⟨_, X30, n31, hc32, hm33, ht34, ⟨g, e, rfl, hS⟩⟩ := (solve_any (W := lK k) (N := N) (len := sK k + 2 + es.length) (matK k es) (List.replicate (sK k + 2) [] ++ ds) hgm hall (matK_mx h1 h8 es).1 (by simp [hdl]) (by omega) (by omega) (by omega) (by omega) hN0 hN s26.topX : PureC 70 [vf (.int .i64 ((lK k : Nat) : Int)), vf (.int .i64 ((N : Nat) : Int)), vf (gm), vf (a28)] X23 (n25) _)
  obtain ⟨H35, hc36, s37⟩ := s26.call hc32 hm33 ht34
  have hm0 := hm0.tr hm33
  have he := he.mono hm33
  have hdA := hdA.mono fun _ _ q => q.mono hm33
  have hgm := hgm.mono hm33
  have hbr := rowA_mono hm33 hbr
  refine Sd.eff (some 29) (by kernel_rfl) (by kernel_rfl) (jCall (by kernel_rfl) hc36 (by kernel_rfl)) ⟨.inl (by kernel_rfl), .inl (by kernel_rfl), trivial⟩ ?_
  rw [List.map_append, fit_nils, fit_id hds, fit_id (matK_mx h1 h8 es)] at hS
  refine Sd.go (L := []) [11, 12, 13, 14] (by kernel_rfl) ?_
  refine Sd.done ?_
  show To Tryz.prog 46 [1, 1, 1] _ _ _ _
  refine To.ret (by kernel_rfl) ?_
  exact ⟨.inr rfl, _, by kernel_rfl, X30, _, s37, hm0, g, e, rfl, hS⟩
end Go.Proofs.YtkimkgbppegkhaaGreat.Cm
