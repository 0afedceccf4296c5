/- The clean machine's walks of objects: made of bytes. -/
import Derived.Test.YtkimkgbppegkhaaGreatGk
namespace Go.Proofs.YtkimkgbppegkhaaGreat.Cm
open Go Go.RowKit Go.Proofs.YtkimkgbppegkhaaGreat.Gf
set_option maxRecDepth 1000000
theorem blkR_mx {data : List Nat} (hb : B8 data) (N s M b : Nat) : Mx (kN s M b) N (blkR data N s M b) := ⟨by unfold blkR; simp, fun r hr => by
  unfold blkR at hr
  obtain ⟨q, _, rfl⟩ := List.mem_map.1 hr
  exact sumRows_rw fun x hx => hb x (List.mem_of_mem_drop (List.mem_of_mem_take hx))⟩
/-- a block among an object's: how many source symbols, which parts -/
def BlkV (N : Nat) (X : Heap) (f : F) (q : Nat × List (List Nat)) : Prop := ∃ b, f = .ptr b 0 ∧ BlockV X b q.1 N q.2
theorem BlkV.mono {N : Nat} {X Y : Heap} (hm : Mono X Y) {f : F} {q : Nat × List (List Nat)} (h : BlkV N X f q) : BlkV N Y f q := by
  obtain ⟨b, h1, h2⟩ := h
  exact ⟨b, h1, h2.mono hm⟩
/-- an object, as a heap has it -/
def ObjV (X : Heap) (o B N M : Nat) (bl : List (Nat × List (List Nat))) : Prop := ∃ a fs, X o = some (.cells [.int .i64 ((B : Nat) : Int), .int .i64 ((N : Nat) : Int), .int .i64 ((M : Nat) : Int), a] true) ∧ rowA X 1 a = some fs ∧ All2 (BlkV N X) fs bl
theorem ObjV.mono {X Y : Heap} {o B N M : Nat} {bl : List (Nat × List (List Nat))} (hm : Mono X Y) (h : ObjV X o B N M bl) : ObjV Y o B N M bl := by
  obtain ⟨a, fs, h1, h2, h3⟩ := h
  exact ⟨a, fs, hm _ _ h1, rowA_mono hm h2, h3.mono fun _ _ q => q.mono hm⟩
/-- a block's parts are those of its source symbols -/
def BlS (data : List Nat) (B N M i : Nat) (q : Nat × List (List Nat)) : Prop := q.1 = kS B N M i ∧ Solved (lK q.1) N (sK q.1 + 2 + (List.range q.1).length) (matK q.1 (List.range q.1)) (besK q.1 N (blkR data N (symS B N) M i)) q.2
def BlAll (data : List Nat) (B N M : Nat) (bl : List (Nat × List (List Nat))) : Prop := ∀ i q, bl[i]? = some q → BlS data B N M i q
theorem BlAll.snoc {data : List Nat} {B N M : Nat} {bl : List (Nat × List (List Nat))} (h : BlAll data B N M bl) {q : Nat × List (List Nat)} (hq : BlS data B N M bl.length q) : BlAll data B N M (bl ++ [q]) := fun i x hx => by
  rcases Nat.lt_trichotomy i bl.length with h1 | h1 | h1
  · rw [List.getElem?_append_left h1] at hx; exact h i x hx
  · subst h1
    simp at hx
    subst hx
    exact hq
  · rw [List.getElem?_eq_none (by simp; omega)] at hx; cases hx

theorem onew_pure {X : Heap} {n : Nat} {B N M : Nat} {fd : F} (data : List Nat) (h : ShOk B N M) (hd : RowV X fd data) (hB : data.length = B) (hcp : CapOk fd) (ht : Top X n) : PureC 8 [.u (.agg [.int .i64 ((B : Nat) : Int), .int .i64 ((N : Nat) : Int), .int .i64 ((M : Nat) : Int)]), vf (fd)] X n fun v X' => ∃ g e, v = .tup [.f g, .f (.int .i64 e)] ∧ ((e = 0 ∧ ∃ o bl, g = .ptr o 0 ∧ ObjV X' o B N M bl ∧ bl.length = blkS B N M ∧ BlAll data B N M bl) ∨ (e = 4 ∧ g = .ptr0 ∧ ∃ i, i < blkS B N M ∧ Unsolved (lK (kS B N M i)) N (sK (kS B N M i) + 2 + (List.range (kS B N M i)).length) (matK (kS B N M i) (List.range (kS B N M i))) (besK (kS B N M i) N (blkR data N (symS B N) M i)))) := by
  refine PureC.of_to (by kernel_rfl) ?_
  have s0 := Sep.ini ht
  have hm0 : Mono X X := Mono.rfl
  have hbp := blk_pos h
  have hb8 := hd.2.1
  obtain ⟨hb1, hb2, hn1, hn2, hm1, hm2⟩ := id h
  refine To.seq (by kernel_rfl) ?_
  refine To.region (by kernel_rfl) ?_
  obtain ⟨H1, s2, J3⟩ := jNewM s0 (.cells [.int .i64 ((B : Nat) : Int), .int .i64 ((N : Nat) : Int), .int .i64 ((M : Nat) : Int)] true)
  refine Sg.op (some 2) (by kernel_rfl) (J3 _ _ (vf (.ptr (n) (0))) (by kernel_rfl)) ?_
  refine Sg.go 2 (by kernel_rfl) ?_
  refine Sg.done (by kernel_rfl) ?_
  show To Tryz.prog 8 [1] _ _ _ _
  refine To.seq (by kernel_rfl) ?_
  refine To.region (by kernel_rfl) ?_
  refine Sg.op (some 14) (by kernel_rfl) (jLoadAE (off := 0) (sz := 3) (c := [.int .i64 ((B : Nat) : Int), .int .i64 ((N : Nat) : Int), .int .i64 ((M : Nat) : Int)]) (s2.at 0 rfl) (by simp) rfl (by kernel_rfl)) ?_
  refine Sg.go 1 (by kernel_rfl) ?_
  obtain ⟨_, X4, n5, hc6, hm7, ht8, ⟨g, rfl, gs, hr, hG⟩⟩ := (cut_pure data h hd hB hcp s2.topX : PureC 24 [.u (.agg [.int .i64 ((B : Nat) : Int), .int .i64 ((N : Nat) : Int), .int .i64 ((M : Nat) : Int)]), vf (fd)] X (n + 1) _)
  obtain ⟨H9, hc10, s11⟩ := s2.call hc6 hm7 ht8
  have hm0 := hm0.tr hm7
  have hd := hd.mono hm7
  refine Sg.op (some 16) (by kernel_rfl) (jCall (by kernel_rfl) hc10 (by kernel_rfl)) ?_
  have hgl : gs.length = blkS B N M := by rw [← hG.length]; unfold blksR; simp
  refine Sg.go 5 (by kernel_rfl) ?_
  refine Sg.done (by kernel_rfl) ?_
  show To Tryz.prog 8 [1, 1] _ _ _ _
  refine To.seq (by kernel_rfl) ?_
  refine To.seq (by kernel_rfl) ?_
  refine To.region (by kernel_rfl) ?_
  refine Sg.go 1 (by kernel_rfl) ?_
  refine Sg.op (some 20) (by kernel_rfl) (jBin (b_neqF .i64 (x := (0 : Int)) (y := (0 : Int)) (by omega)) (by kernel_rfl)) ?_
  refine Sg.done (by kernel_rfl) ?_
  show To Tryz.prog 8 [1, 0, 1, 1] _ _ _ _
  refine To.ifF (by kernel_rfl) (by kernel_rfl) ?_
  refine To.skip (by kernel_rfl) ?_
  show To Tryz.prog 8 [1, 1, 1] _ _ _ _
  refine To.seq (by kernel_rfl) ?_
  refine To.region (by kernel_rfl) ?_
  refine Sg.op (some 22) (by kernel_rfl) (jLoadAE (off := 0) (sz := 3) (c := [.int .i64 ((B : Nat) : Int), .int .i64 ((N : Nat) : Int), .int .i64 ((M : Nat) : Int)]) (s11.at 0 rfl) (by simp) rfl (by kernel_rfl)) ?_
  refine Sg.go 1 (by kernel_rfl) ?_
  obtain ⟨H12, s13, J14⟩ := jNewM s11 (.cells [.int .i64 ((B : Nat) : Int), .int .i64 ((N : Nat) : Int), .int .i64 ((M : Nat) : Int), .sl0] true)
  refine Sg.op (some 24) (by kernel_rfl) (J14 _ _ (vf (.ptr (n5) (0))) (by kernel_rfl)) ?_
  refine Sg.go 1 (by kernel_rfl) ?_
  refine Sg.done (by kernel_rfl) ?_
  show To Tryz.prog 8 [1, 1, 1, 1] _ _ _ _
  refine To.seq (by kernel_rfl) ?_
  refine To.seq (by kernel_rfl) ?_
  refine To.region (by kernel_rfl) ?_
  refine Sg.go 1 (by kernel_rfl) ?_
  refine Sg.op (some 26) (by kernel_rfl) (jLenV (l := gs.length) (rowA_len1 hr) (by kernel_rfl)) ?_
  refine Sg.go 1 (by kernel_rfl) ?_
  refine Sg.done (by kernel_rfl) ?_
  show To Tryz.prog 8 [1, 0, 1, 1, 1, 1] _ _ _ _
  refine To.block 0 (by kernel_rfl) ?_
  refine To.loop (by kernel_rfl) ?_
  refine ToL.for (gs.length) (fun i A Hq nq => ∃ (Y : Heap) (a : F) (fs : List F) (bl : List (Nat × List (List Nat))), AtL A [(2, vf (.ptr (n) (0))), (8, vf (.ptr (n5) (0))), (25, vf (g)), (26, vf (.int .i64 ((gs.length : Nat) : Int))), (27, vf (.int .i64 ((i : Nat) : Int)))] ∧ Sep Y Hq nq ([(n5, .cells [.int .i64 ((B : Nat) : Int), .int .i64 ((N : Nat) : Int), .int .i64 ((M : Nat) : Int), a] true), (n, .cells [.int .i64 ((B : Nat) : Int), .int .i64 ((N : Nat) : Int), .int .i64 ((M : Nat) : Int)] true)] ++ (accM (a) (fs) ++ [])) ∧ (Mono X Y) ∧ (rowA Y 1 g = some gs) ∧ (All2 (RowsV Y) gs (blksR data N (symS B N) M)) ∧ (AccF 1 a fs) ∧ (All2 (BlkV N Y) fs bl) ∧ (bl.length = i) ∧ (BlAll data B N M bl)) ⟨X4, .sl0, [], [], getsL_spec (ts := [2, 8, 25, 26, 27]) (by kernel_rfl), s13, (hm0), (hr), (hG), (AccF.nil 1), (trivial), (rfl), (fun _ _ h => by simp at h)⟩ (fun i A H15 n16 hi hI => ?_) (fun A H15 n16 hI => ?_)
  · skip
    obtain ⟨Y, a, fs, bl, hT, s17, hm0, hr, hG, ha, hA, hbl, hS⟩ := hI
    refine To.keep _ ?_ hT.sub
    have hib : i < blkS B N M := by omega
    have hkb := (kS_all h).2.2 i hib
    have hx : gs[i]? = some gs[i] := List.getElem?_eq_getElem hi
    obtain ⟨r, hr1, hr2⟩ := hG.at hx
    have hrr : r = blkR data N (symS B N) M i := by
      unfold blksR at hr1
      rw [List.getElem?_map, List.getElem?_range hib] at hr1
      exact (Option.some.inj hr1).symm
    subst hrr
    obtain ⟨lid, loff, lcap, rfl, hlat⟩ := rowA_sl hr (by omega)
    have hfl := hA.length
    refine To.seq (by kernel_rfl) ?_
    refine To.region (by kernel_rfl) ?_
    refine Sg.op (some 28) (by kernel_rfl) (jBin (b_lssT .i64 (x := ((i : Nat) : Int)) (y := ((gs.length : Nat) : Int)) (by omega)) (by kernel_rfl)) ?_
    refine Sg.done (by kernel_rfl) ?_
    show To Tryz.prog 8 [1, 0, 0, 1, 0, 1, 1, 1, 1] _ _ _ _
    refine To.seq (by kernel_rfl) ?_
    refine To.ifT (by kernel_rfl) (by kernel_rfl) ?_
    refine To.skip (by kernel_rfl) ?_
    show To Tryz.prog 8 [1, 1, 0, 0, 1, 0, 1, 1, 1, 1] _ _ _ _
    refine To.seq (by kernel_rfl) ?_
    refine To.block 1 (by kernel_rfl) ?_
    refine To.seq (by kernel_rfl) ?_
    refine To.region (by kernel_rfl) ?_
    refine Sg.op (some 29) (by kernel_rfl) (jIdx (id := lid) (off := loff) (sz := 1) (len := gs.length) (k := i) (by omega) (by kernel_rfl)) ?_
    refine Sg.op (some 30) (by kernel_rfl) (jLoadX (id := lid) (off := loff + i * 1) (x := gs[i]) (by rw [Nat.mul_one]; exact (hlat i _ hx).mono (s17.mono _)) (by kernel_rfl)) ?_
    refine Sg.go 1 (by kernel_rfl) ?_
    refine Sg.done (by kernel_rfl) ?_
    show To Tryz.prog 8 [1, 0, 0, 1, 1, 0, 0, 1, 0, 1, 1, 1, 1] _ _ _ _
    refine To.seq (by kernel_rfl) ?_
    refine To.region (by kernel_rfl) ?_
    refine Sg.go 1 (by kernel_rfl) ?_
    refine Sg.op (some 33) (by kernel_rfl) (jLoad (off := 1) (x := .int .i64 ((N : Nat) : Int)) (s17.at 1 rfl) (by kernel_rfl) (by kernel_rfl)) ?_
    refine Sg.go 1 (by kernel_rfl) ?_
    obtain ⟨_, X18, n19, hc20, hm21, ht22, ⟨z, e, rfl, hz⟩⟩ := (new_pure (k := kS B N M i) _ hkb.1 hkb.2 hr2 (blkR_mx hb8 _ _ _ _) (by omega) (by omega) s17.topX : PureC 25 [vf (.int .i64 ((N : Nat) : Int)), vf (gs[i])] Y (n16) _)
    obtain ⟨H23, hc24, s25⟩ := s17.call hc20 hm21 ht22
    have hm0 := hm0.tr hm21
    have hr := rowA_mono hm21 hr
    have hG := hG.mono fun _ _ q => q.mono hm21
    have hA := hA.mono fun _ _ q => q.mono hm21
    have hr2 := hr2.mono hm21
    refine Sg.op (some 35) (by kernel_rfl) (jCall (by kernel_rfl) hc24 (by kernel_rfl)) ?_
    rcases hz with ⟨rfl, b, cs, rfl, hbv, hsv⟩ | ⟨rfl, rfl, hun⟩
    · skip
      refine Sg.go 5 (by kernel_rfl) ?_
      refine Sg.done (by kernel_rfl) ?_
      show To Tryz.prog 8 [1, 1, 0, 0, 1, 1, 0, 0, 1, 0, 1, 1, 1, 1] _ _ _ _
      refine To.seq (by kernel_rfl) ?_
      refine To.seq (by kernel_rfl) ?_
      refine To.region (by kernel_rfl) ?_
      refine Sg.go 1 (by kernel_rfl) ?_
      refine Sg.op (some 39) (by kernel_rfl) (jBin (b_neqF .i64 (x := (0 : Int)) (y := (0 : Int)) (by omega)) (by kernel_rfl)) ?_
      refine Sg.done (by kernel_rfl) ?_
      show To Tryz.prog 8 [1, 0, 1, 1, 0, 0, 1, 1, 0, 0, 1, 0, 1, 1, 1, 1] _ _ _ _
      refine To.ifF (by kernel_rfl) (by kernel_rfl) ?_
      refine To.skip (by kernel_rfl) ?_
      show To Tryz.prog 8 [1, 1, 1, 0, 0, 1, 1, 0, 0, 1, 0, 1, 1, 1, 1] _ _ _ _
      refine To.region (by kernel_rfl) ?_
      refine Sg.go 4 (by kernel_rfl) ?_
      refine Sg.op (some 45) (by kernel_rfl) (jLoad (off := 3) (x := a) (s25.at 0 rfl) (by kernel_rfl) (by kernel_rfl)) ?_
      refine Sg.go 1 (by kernel_rfl) ?_
      obtain ⟨X26, H27, s28, m29, f30, J31⟩ := jNewF s25 (.cells [.ptr (b) (0)] true)
      have hm0 := hm0.tr m29
      have hr := rowA_mono m29 hr
      have hG := hG.mono fun _ _ q => q.mono m29
      have hA := hA.mono fun _ _ q => q.mono m29
      have hr2 := hr2.mono m29
      have hbv := hbv.mono m29
      refine Sg.op (some 47) (by kernel_rfl) (J31 _ _ (vf (.sl (n19) (0) 1 (1) none)) (by kernel_rfl)) ?_
      obtain ⟨a32, H33, n34, ha35, s36, J37⟩ := jAcc (sz := 1) (bytes := 8) (x := .sl (n19) (0) 1 (1) none) (fs := fs) (new := [.ptr (b) (0)]) (M1 := [(n5, .cells [.int .i64 ((B : Nat) : Int), .int .i64 ((N : Nat) : Int), .int .i64 ((M : Nat) : Int), a] true), (n, .cells [.int .i64 ((B : Nat) : Int), .int .i64 ((N : Nat) : Int), .int .i64 ((M : Nat) : Int)] true)]) (M2 := []) s28 ha (row_all (s28.mono _ _ f30) rfl) (rfl) (by omega) (by omega)
      refine Sg.op (some 48) (by kernel_rfl) (J37 _ _ (by kernel_rfl)) ?_
      refine Sg.go 2 (by kernel_rfl) ?_
      obtain ⟨H38, s39, J40⟩ := jSet (off := 3) (new := [a32]) (cs' := [.int .i64 ((B : Nat) : Int), .int .i64 ((N : Nat) : Int), .int .i64 ((M : Nat) : Int), a32]) s36 0 rfl (by simp) rfl
      have s39 : Sep X26 H38 (n34) ([(n5, .cells [.int .i64 ((B : Nat) : Int), .int .i64 ((N : Nat) : Int), .int .i64 ((M : Nat) : Int), a32] true), (n, .cells [.int .i64 ((B : Nat) : Int), .int .i64 ((N : Nat) : Int), .int .i64 ((M : Nat) : Int)] true)] ++ (accM (a32) ((fs ++ [.ptr (b) (0)])) ++ [])) := s39
      refine Sg.op none (by kernel_rfl) (J40 _ _ (by kernel_rfl)) ?_
      refine Sg.done (by kernel_rfl) ?_
      show To Tryz.prog 8 [1, 1, 1, 0, 0, 1, 0, 1, 1, 1, 1] _ _ _ _
      refine To.region (by kernel_rfl) ?_
      refine Sg.op (some 51) (by kernel_rfl) (jBin (b_addN (i) (1) (by omega)) (by kernel_rfl)) ?_
      refine Sg.go 1 (by kernel_rfl) ?_
      refine Sg.done (by kernel_rfl) ?_
      exact .inl ⟨rfl, X26, _, _, bl ++ [(kS B N M i, cs)], getsL_spec (ts := [2, 8, 25, 26, 27]) (by kernel_rfl), s39, (hm0), (hr), (hG), (ha35), (hA.snoc ⟨b, rfl, hbv⟩), (by simp [hbl]), (hS.snoc ⟨by rw [hbl], by rw [hbl]; exact hsv⟩)⟩
    · skip
      refine Sg.go 5 (by kernel_rfl) ?_
      refine Sg.done (by kernel_rfl) ?_
      show To Tryz.prog 8 [1, 1, 0, 0, 1, 1, 0, 0, 1, 0, 1, 1, 1, 1] _ _ _ _
      refine To.seq (by kernel_rfl) ?_
      refine To.seq (by kernel_rfl) ?_
      refine To.region (by kernel_rfl) ?_
      refine Sg.go 1 (by kernel_rfl) ?_
      refine Sg.op (some 39) (by kernel_rfl) (jBin (b_neqT .i64 (x := (4 : Int)) (y := (0 : Int)) (by omega)) (by kernel_rfl)) ?_
      refine Sg.done (by kernel_rfl) ?_
      show To Tryz.prog 8 [1, 0, 1, 1, 0, 0, 1, 1, 0, 0, 1, 0, 1, 1, 1, 1] _ _ _ _
      refine To.ifT (by kernel_rfl) (by kernel_rfl) ?_
      refine To.seq (by kernel_rfl) ?_
      refine To.region (by kernel_rfl) ?_
      refine Sg.go 3 (by kernel_rfl) ?_
      refine Sg.done (by kernel_rfl) ?_
      show To Tryz.prog 8 [1, 0, 1, 0, 1, 1, 0, 0, 1, 1, 0, 0, 1, 0, 1, 1, 1, 1] _ _ _ _
      refine To.ret (by kernel_rfl) ?_
      refine .inr ⟨by simp, ?_⟩
      exact ⟨.inr rfl, _, by kernel_rfl, X18, _, s25, hm0, _, _, rfl, .inr ⟨rfl, rfl, i, hib, hun⟩⟩
  · skip
    obtain ⟨Y, a, fs, bl, hT, s41, hm0, hr, hG, ha, hA, hbl, hS⟩ := hI
    refine To.keep _ ?_ hT.sub
    refine To.seq (by kernel_rfl) ?_
    refine To.region (by kernel_rfl) ?_
    refine Sg.op (some 28) (by kernel_rfl) (jBin (b_lssF .i64 (x := (((gs.length) : Nat) : Int)) (y := ((gs.length : Nat) : Int)) (by simp)) (by kernel_rfl)) ?_
    refine Sg.done (by kernel_rfl) ?_
    show To Tryz.prog 8 [1, 0, 0, 1, 0, 1, 1, 1, 1] _ _ _ _
    obtain ⟨X42, m43, s44, hrow, hrowk⟩ := Sep.acc (sz := 1) (M1 := [(n5, .cells [.int .i64 ((B : Nat) : Int), .int .i64 ((N : Nat) : Int), .int .i64 ((M : Nat) : Int), a] true), (n, .cells [.int .i64 ((B : Nat) : Int), .int .i64 ((N : Nat) : Int), .int .i64 ((M : Nat) : Int)] true)]) (M2 := []) (a := a) (fs := fs) (by simpa using s41) ha
    have hm0 := hm0.tr m43
    have hr := rowA_mono m43 hr
    have hG := hG.mono fun _ _ q => q.mono m43
    have hA := hA.mono fun _ _ q => q.mono m43
    have s44 : Sep X42 H15 (n16) [(n5, .cells [.int .i64 ((B : Nat) : Int), .int .i64 ((N : Nat) : Int), .int .i64 ((M : Nat) : Int), a] true), (n, .cells [.int .i64 ((B : Nat) : Int), .int .i64 ((N : Nat) : Int), .int .i64 ((M : Nat) : Int)] true)] := by simpa using s44
    refine To.seq (by kernel_rfl) ?_
    refine To.ifF (by kernel_rfl) (by kernel_rfl) ?_
    refine To.exit 0 (by kernel_rfl) ?_
    refine ⟨by simp, ?_⟩
    show To Tryz.prog 8 [1, 1, 1, 1, 1] _ _ _ _
    refine To.seq (by kernel_rfl) ?_
    refine To.region (by kernel_rfl) ?_
    refine Sg.go 3 (by kernel_rfl) ?_
    refine Sg.done (by kernel_rfl) ?_
    show To Tryz.prog 8 [1, 1, 1, 1, 1, 1] _ _ _ _
    refine To.ret (by kernel_rfl) ?_
    exact ⟨.inr rfl, _, by kernel_rfl, _, _, s44.frz.1, hm0.tr s44.frz.2, _, _, rfl, .inl ⟨rfl, _, bl, rfl, ⟨_, _, upd_same _ _ _, rowA_mono s44.frz.2 hrow, hA.mono fun _ _ q => q.mono s44.frz.2⟩, by omega, hS⟩⟩
end Go.Proofs.YtkimkgbppegkhaaGreat.Cm
