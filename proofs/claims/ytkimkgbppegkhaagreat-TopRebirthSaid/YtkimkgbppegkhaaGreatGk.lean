/- The clean machine's walks of cutting: an object cut into rows. -/
import Derived.Test.YtkimkgbppegkhaaGreatGj
namespace Go.Proofs.YtkimkgbppegkhaaGreat.Cm
open Go Go.RowKit Go.Proofs.YtkimkgbppegkhaaGreat.Gf
set_option maxRecDepth 1000000
theorem intsA_take : ∀ {vs : List Value} {l : List F} (n : Nat), intsA vs = some l → intsA (vs.take n) = some (l.take n)
  | [], l, n, h => by simp only [intsA] at h; cases h; simp [intsA]
  | v :: vs, l, 0, h => by simp [intsA]
  | v :: vs, l, n + 1, h => by
    unfold intsA at h
    split at h
    · rename_i heq; cases heq
    · rename_i k m r heq
      cases heq
      split at h
      · rename_i l' hl
        cases h
        simp only [List.take_succ_cons, intsA, intsA_take n hl]
      · cases h
    · cases h
theorem intsA_drop : ∀ {vs : List Value} {l : List F} (n : Nat), intsA vs = some l → intsA (vs.drop n) = some (l.drop n)
  | [], l, n, h => by simp only [intsA] at h; cases h; simp [intsA]
  | v :: vs, l, 0, h => by simpa using h
  | v :: vs, l, n + 1, h => by
    unfold intsA at h
    split at h
    · rename_i heq; cases heq
    · rename_i k m r heq
      cases heq
      split at h
      · rename_i l' hl
        cases h
        simpa using intsA_drop n hl
      · cases h
    · cases h
theorem rowA_sub {H : Heap} {id off len l h : Nat} {cap cap' : Option Nat} {cs : List F} (hr : rowA H 1 (.sl id off 1 len cap) = some cs) (hlh : l ≤ h) (hh : h ≤ len) : rowA H 1 (.sl id (off + l * 1) 1 (h - l) cap') = some ((cs.take h).drop l) := by
  simp only [rowA, if_true, Nat.mul_one] at hr ⊢
  split at hr
  · rename_i all ex h2
    split at hr
    · rename_i h3
      cases hr
      rw [if_pos (by omega)]
      congr 1
      rw [List.take_take, Nat.min_eq_left hh, List.drop_take, List.drop_drop]
    · cases hr
  · rename_i rcs elem fz h2
    split at hr
    · rename_i h3
      rw [if_pos (by omega)]
      have := intsA_drop l (intsA_take h hr)
      rw [List.take_take, Nat.min_eq_left hh, List.drop_take, List.drop_drop] at this
      exact this
    · cases hr
  · cases hr
theorem rowA_size {H : Heap} {id off len : Nat} {cap : Option Nat} {cs : List F} (hr : rowA H 1 (.sl id off 1 len cap) = some cs) : ∃ L, (H id).bind sizeO = some L ∧ off + len ≤ L := by
  simp only [rowA, if_true, Nat.mul_one] at hr
  split at hr
  · rename_i all ex h2
    split at hr
    · exact ⟨_, by rw [h2]; rfl, by assumption⟩
    · cases hr
  · rename_i rcs elem fz h2
    split at hr
    · exact ⟨_, by rw [h2]; rfl, by assumption⟩
    · cases hr
  · cases hr
theorem RowV.cut {H : Heap} {id off len l h : Nat} {cap cap' : Option Nat} {r : List Nat} (hr : RowV H (.sl id off 1 len cap) r) (hlh : l ≤ h) (hh : h ≤ len) : RowV H (.sl id (off + l * 1) 1 (h - l) cap') ((r.take h).drop l) := by
  refine ⟨?_, fun x hx => hr.2.1 x (List.mem_of_mem_take (List.mem_of_mem_drop hx)), by have := hr.2.2; simp; omega⟩
  rw [rowA_sub hr.1 hlh hh]
  unfold bs
  rw [List.map_drop, List.map_take]
def CapOk (f : F) : Prop := match f with | .sl _ _ _ len (some c) => len ≤ c | _ => True
/-- a list of things -/
def LstV {α : Type} (R : Heap → F → α → Prop) (X : Heap) (f : F) (l : List α) : Prop := ∃ fs, rowA X 1 f = some fs ∧ All2 (R X) fs l
/-- a symbol of an object that is cut -/
def fitr (data : List Nat) (N t : Nat) : List Nat := sumRows N [(data.drop (t * N)).take N]
def blkR (data : List Nat) (N s M b : Nat) : List (List Nat) := (List.range (kN s M b)).map fun q => fitr data N (sumK s M b + q)
def blksR (data : List Nat) (N s M : Nat) : List (List (List Nat)) := (List.range (blkN s M)).map (blkR data N s M)
theorem range_snoc {α : Type} (f : Nat → α) (n : Nat) : (List.range (n + 1)).map f = (List.range n).map f ++ [f n] := by rw [List.range_succ, List.map_append]; rfl
theorem sumK_mono {s M : Nat} : ∀ {a b : Nat}, a ≤ b → sumK s M a ≤ sumK s M b
  | a, 0, h => by have : a = 0 := by omega
                  subst this; exact Nat.le_refl _
  | a, b + 1, h => by
    rcases Nat.lt_or_ge b a with g | g
    · have : a = b + 1 := by omega
      subst this; exact Nat.le_refl _
    · exact Nat.le_trans (sumK_mono g) (Nat.le_add_right _ _)
theorem min_drop {data : List Nat} {N t : Nat} : ((data.drop (t * N)).take (min N (data.drop (t * N)).length)).drop 0 = (data.drop (t * N)).take N := by
  rw [List.drop_zero, List.take_eq_take_iff]
  omega
theorem drop_min {data : List Nat} {N t : Nat} : ((data.drop (t * N)).take (data.drop (t * N)).length).drop (min N (data.drop (t * N)).length) = data.drop ((t + 1) * N) := by
  rw [List.take_length, List.drop_drop, Nat.add_mul, Nat.one_mul]
  rcases Nat.le_total N (data.drop (t * N)).length with h | h
  · rw [Nat.min_eq_left h]
  · rw [Nat.min_eq_right h, List.drop_of_length_le (by simp; omega), List.drop_of_length_le (by simp at h; omega)]

theorem size_mono {X H : Heap} {id L : Nat} (hm : Mono X H) (h : (X id).bind sizeO = some L) : (H id).bind sizeO = some L := by
  cases hx : X id with
  | none => rw [hx] at h; cases h
  | some o => rw [hm _ _ hx]; rw [hx] at h; exact h
theorem cut_pure {X : Heap} {n : Nat} {B N M : Nat} {fd : F} (data : List Nat) (h : ShOk B N M) (hd : RowV X fd data) (hB : data.length = B) (hcp : CapOk fd) (ht : Top X n) : PureC 24 [.u (.agg [.int .i64 ((B : Nat) : Int), .int .i64 ((N : Nat) : Int), .int .i64 ((M : Nat) : Int)]), vf (fd)] X n fun v X' => ∃ g, v = .tup [.f g, .f (.int .i64 0)] ∧ LstV RowsV X' g (blksR data N (symS B N) M) := by
  refine PureC.of_to (by kernel_rfl) ?_
  have s0 := Sep.ini ht
  have hm0 : Mono X X := Mono.rfl
  have hbp := blk_pos h
  obtain ⟨hb1, hb2, hn1, hn2, hm1, hm2⟩ := id h
  refine To.seq (by kernel_rfl) ?_
  refine To.region (by kernel_rfl) ?_
  obtain ⟨H1, s2, J3⟩ := jNewM s0 (.cells [.int .i64 ((B : Nat) : Int), .int .i64 ((N : Nat) : Int), .int .i64 ((M : Nat) : Int)] true)
  refine Sg.op (some 2) (by kernel_rfl) (J3 _ _ (vf (.ptr (n) (0))) (by kernel_rfl)) ?_
  refine Sg.go 2 (by kernel_rfl) ?_
  refine Sg.done (by kernel_rfl) ?_
  show To Tryz.prog 24 [1] _ _ _ _
  refine To.seq (by kernel_rfl) ?_
  refine To.block 0 (by kernel_rfl) ?_
  refine To.seq (by kernel_rfl) ?_
  refine To.region (by kernel_rfl) ?_
  refine Sg.op (some 11) (by kernel_rfl) (jLoadAE (off := 0) (sz := 3) (c := [.int .i64 ((B : Nat) : Int), .int .i64 ((N : Nat) : Int), .int .i64 ((M : Nat) : Int)]) (s2.at 0 rfl) (by simp) rfl (by kernel_rfl)) ?_
  obtain ⟨_, X4, n5, hc6, hm7, ht8, rfl⟩ := (right_pure h s2.topX : PureC 27 [.u (.agg [.int .i64 ((B : Nat) : Int), .int .i64 ((N : Nat) : Int), .int .i64 ((M : Nat) : Int)])] X (n + 1) _)
  obtain ⟨H9, hc10, s11⟩ := s2.call hc6 hm7 ht8
  have hm0 := hm0.tr hm7
  have hd := hd.mono hm7
  refine Sg.op (some 12) (by kernel_rfl) (jCall (by kernel_rfl) hc10 (by kernel_rfl)) ?_
  refine Sg.go 2 (by kernel_rfl) ?_
  refine Sg.done (by kernel_rfl) ?_
  show To Tryz.prog 24 [1, 0, 0, 1] _ _ _ _
  refine To.ifF (by kernel_rfl) (by kernel_rfl) ?_
  refine To.seq (by kernel_rfl) ?_
  refine To.region (by kernel_rfl) ?_
  refine Sg.go 1 (by kernel_rfl) ?_
  refine Sg.op (some 16) (by kernel_rfl) (jLenV (l := data.length) (hd.lenA) (by kernel_rfl)) ?_
  refine Sg.go 1 (by kernel_rfl) ?_
  refine Sg.op (some 18) (by kernel_rfl) (jLoad (off := 0) (x := .int .i64 ((B : Nat) : Int)) (s11.at 0 rfl) (by kernel_rfl) (by kernel_rfl)) ?_
  refine Sg.op (some 19) (by kernel_rfl) (jBin (b_neqF .i64 (x := ((data.length : Nat) : Int)) (y := ((B : Nat) : Int)) (by omega)) (by kernel_rfl)) ?_
  refine Sg.go 1 (by kernel_rfl) ?_
  refine Sg.done (by kernel_rfl) ?_
  show To Tryz.prog 24 [1, 1, 1, 0, 0, 1] _ _ _ _
  refine To.ifF (by kernel_rfl) (by kernel_rfl) ?_
  refine To.skip (by kernel_rfl) ?_
  show To Tryz.prog 24 [1, 1] _ _ _ _
  refine To.seq (by kernel_rfl) ?_
  refine To.region (by kernel_rfl) ?_
  refine Sg.go 1 (by kernel_rfl) ?_
  refine Sg.done (by kernel_rfl) ?_
  show To Tryz.prog 24 [1, 1, 1] _ _ _ _
  refine To.seq (by kernel_rfl) ?_
  refine To.seq (by kernel_rfl) ?_
  refine To.region (by kernel_rfl) ?_
  refine Sg.op (some 20) (by kernel_rfl) (jLoadAE (off := 0) (sz := 3) (c := [.int .i64 ((B : Nat) : Int), .int .i64 ((N : Nat) : Int), .int .i64 ((M : Nat) : Int)]) (s11.at 0 rfl) (by simp) rfl (by kernel_rfl)) ?_
  obtain ⟨_, X12, n13, hc14, hm15, ht16, rfl⟩ := (blocks_pure h s11.topX : PureC 10 [.u (.agg [.int .i64 ((B : Nat) : Int), .int .i64 ((N : Nat) : Int), .int .i64 ((M : Nat) : Int)])] X4 (n5) _)
  obtain ⟨H17, hc18, s19⟩ := s11.call hc14 hm15 ht16
  have hm0 := hm0.tr hm15
  have hd := hd.mono hm15
  refine Sg.op (some 21) (by kernel_rfl) (jCall (by kernel_rfl) hc18 (by kernel_rfl)) ?_
  obtain ⟨did, off0, cap0, rfl, _⟩ := hd.sl (by omega)
  have hd0 : RowV X12 (.sl did off0 1 data.length cap0) (data.drop (sumK (symS B N) M 0 * N)) := by rw [show sumK (symS B N) M 0 = 0 from rfl, Nat.zero_mul, List.drop_zero]; exact hd
  have hdl0 : data.length = (data.drop (sumK (symS B N) M 0 * N)).length := by rw [show sumK (symS B N) M 0 = 0 from rfl, Nat.zero_mul, List.drop_zero]
  have hcap0 : ∀ c, cap0 = some c → data.length ≤ c := fun c hc => by subst hc; exact hcp
  refine Sg.go 1 (by kernel_rfl) ?_
  refine Sg.done (by kernel_rfl) ?_
  show To Tryz.prog 24 [1, 0, 1, 1, 1] _ _ _ _
  refine To.block 1 (by kernel_rfl) ?_
  refine To.loop (by kernel_rfl) ?_
  refine ToL.for (blkS B N M) (fun b A Hq nq => ∃ (Y : Heap) (a : F) (fs : List F) (off : Nat) (len : Nat) (cap : Option Nat), AtL A [(1, vf (.sl (did) (off) 1 (len) cap)), (2, vf (.ptr (n) (0))), (6, vf (a)), (21, vf (.int .i64 ((blkS B N M : Nat) : Int))), (22, vf (.int .i64 ((b : Nat) : Int)))] ∧ Sep Y Hq nq ([(n, .cells [.int .i64 ((B : Nat) : Int), .int .i64 ((N : Nat) : Int), .int .i64 ((M : Nat) : Int)] true)] ++ (accM (a) (fs) ++ [])) ∧ (Mono X Y) ∧ (AccF 1 a fs) ∧ (All2 (RowsV Y) fs ((List.range b).map (blkR data N (symS B N) M))) ∧ (RowV Y (.sl did off 1 len cap) (data.drop (sumK (symS B N) M b * N))) ∧ (len = (data.drop (sumK (symS B N) M b * N)).length) ∧ (∀ c, cap = some c → len ≤ c)) ⟨X12, .sl0, [], _, _, _, getsL_spec (ts := [1, 2, 6, 21, 22]) (by kernel_rfl), s19, (hm0), (AccF.nil 1), (trivial), (hd0), (hdl0), (hcap0)⟩ (fun b A H20 n21 hi hI => ?_) (fun A H20 n21 hI => ?_)
  · skip
    obtain ⟨Y, a, fs, off, len, cap, hT, s22, hm0, ha, hA, hd, hdl, hcap⟩ := hI
    refine To.keep _ ?_ hT.sub
    have hkb := (kS_all h).2.2 b hi
    refine To.seq (by kernel_rfl) ?_
    refine To.region (by kernel_rfl) ?_
    refine Sg.op (some 23) (by kernel_rfl) (jBin (b_lssT .i64 (x := ((b : Nat) : Int)) (y := ((blkS B N M : Nat) : Int)) (by omega)) (by kernel_rfl)) ?_
    refine Sg.done (by kernel_rfl) ?_
    show To Tryz.prog 24 [1, 0, 0, 1, 0, 1, 1, 1] _ _ _ _
    refine To.seq (by kernel_rfl) ?_
    refine To.ifT (by kernel_rfl) (by kernel_rfl) ?_
    refine To.skip (by kernel_rfl) ?_
    show To Tryz.prog 24 [1, 1, 0, 0, 1, 0, 1, 1, 1] _ _ _ _
    refine To.seq (by kernel_rfl) ?_
    refine To.block 2 (by kernel_rfl) ?_
    refine To.seq (by kernel_rfl) ?_
    refine To.region (by kernel_rfl) ?_
    refine Sg.go 2 (by kernel_rfl) ?_
    refine Sg.done (by kernel_rfl) ?_
    show To Tryz.prog 24 [1, 0, 0, 1, 1, 0, 0, 1, 0, 1, 1, 1] _ _ _ _
    refine To.seq (by kernel_rfl) ?_
    refine To.region (by kernel_rfl) ?_
    refine Sg.go 1 (by kernel_rfl) ?_
    refine Sg.done (by kernel_rfl) ?_
    show To Tryz.prog 24 [1, 1, 0, 0, 1, 1, 0, 0, 1, 0, 1, 1, 1] _ _ _ _
    refine To.seq (by kernel_rfl) ?_
    refine To.seq (by kernel_rfl) ?_
    refine To.region (by kernel_rfl) ?_
    refine Sg.op (some 25) (by kernel_rfl) (jLoadAE (off := 0) (sz := 3) (c := [.int .i64 ((B : Nat) : Int), .int .i64 ((N : Nat) : Int), .int .i64 ((M : Nat) : Int)]) (s22.at 0 rfl) (by simp) rfl (by kernel_rfl)) ?_
    refine Sg.go 1 (by kernel_rfl) ?_
    obtain ⟨_, X23, n24, hc25, hm26, ht27, rfl⟩ := (k_pure h hi s22.topX : PureC 11 [.u (.agg [.int .i64 ((B : Nat) : Int), .int .i64 ((N : Nat) : Int), .int .i64 ((M : Nat) : Int)]), vf (.int .i64 ((b : Nat) : Int))] Y (n21) _)
    obtain ⟨H28, hc29, s30⟩ := s22.call hc25 hm26 ht27
    have hm0 := hm0.tr hm26
    have hd := hd.mono hm26
    have hA := hA.mono fun _ _ q => q.mono hm26
    refine Sg.op (some 27) (by kernel_rfl) (jCall (by kernel_rfl) hc29 (by kernel_rfl)) ?_
    refine Sg.go 1 (by kernel_rfl) ?_
    refine Sg.done (by kernel_rfl) ?_
    show To Tryz.prog 24 [1, 0, 1, 1, 0, 0, 1, 1, 0, 0, 1, 0, 1, 1, 1] _ _ _ _
    refine To.block 3 (by kernel_rfl) ?_
    refine To.loop (by kernel_rfl) ?_
    refine ToL.for (kS B N M b) (fun q A Hq nq => ∃ (Y : Heap) (a2 : F) (fs2 : List F) (off : Nat) (len : Nat) (cap : Option Nat), AtL A [(1, vf (.sl (did) (off) 1 (len) cap)), (2, vf (.ptr (n) (0))), (6, vf (a)), (8, vf (a2)), (21, vf (.int .i64 ((blkS B N M : Nat) : Int))), (22, vf (.int .i64 ((b : Nat) : Int))), (27, vf (.int .i64 ((kS B N M b : Nat) : Int))), (28, vf (.int .i64 ((q : Nat) : Int)))] ∧ Sep Y Hq nq ([(n, .cells [.int .i64 ((B : Nat) : Int), .int .i64 ((N : Nat) : Int), .int .i64 ((M : Nat) : Int)] true)] ++ (accM (a) (fs) ++ (accM (a2) (fs2) ++ []))) ∧ (Mono X Y) ∧ (All2 (RowsV Y) fs ((List.range b).map (blkR data N (symS B N) M))) ∧ (AccF 1 a2 fs2) ∧ (All2 (RowV Y) fs2 ((List.range q).map fun q => fitr data N (sumK (symS B N) M b + q))) ∧ (RowV Y (.sl did off 1 len cap) (data.drop ((sumK (symS B N) M b + q) * N))) ∧ (len = (data.drop ((sumK (symS B N) M b + q) * N)).length) ∧ (∀ c, cap = some c → len ≤ c)) ⟨X23, .sl0, [], _, _, _, getsL_spec (ts := [1, 2, 6, 8, 21, 22, 27, 28]) (by kernel_rfl), s30, (hm0), (hA), (AccF.nil 1), (trivial), (hd), (hdl), (hcap)⟩ (fun q A H31 n32 hi hI => ?_) (fun A H31 n32 hI => ?_)
    · skip
      obtain ⟨Y, a2, fs2, off, len, cap, hT, s33, hm0, hA, ha2, hA2, hd, hdl, hcap⟩ := hI
      refine To.keep _ ?_ hT.sub
      have hl2 := hA2.length
      rw [List.length_map, List.length_range] at hl2
      obtain ⟨Ld, hL1, hL2⟩ := rowA_size hd.1
      refine To.seq (by kernel_rfl) ?_
      refine To.region (by kernel_rfl) ?_
      refine Sg.op (some 29) (by kernel_rfl) (jBin (b_lssT .i64 (x := ((q : Nat) : Int)) (y := ((kS B N M b : Nat) : Int)) (by omega)) (by kernel_rfl)) ?_
      refine Sg.done (by kernel_rfl) ?_
      show To Tryz.prog 24 [1, 0, 0, 1, 0, 1, 1, 0, 0, 1, 1, 0, 0, 1, 0, 1, 1, 1] _ _ _ _
      refine To.seq (by kernel_rfl) ?_
      refine To.ifT (by kernel_rfl) (by kernel_rfl) ?_
      refine To.skip (by kernel_rfl) ?_
      show To Tryz.prog 24 [1, 1, 0, 0, 1, 0, 1, 1, 0, 0, 1, 1, 0, 0, 1, 0, 1, 1, 1] _ _ _ _
      refine To.seq (by kernel_rfl) ?_
      refine To.block 4 (by kernel_rfl) ?_
      refine To.seq (by kernel_rfl) ?_
      refine To.region (by kernel_rfl) ?_
      refine Sg.go 1 (by kernel_rfl) ?_
      refine Sg.op (some 31) (by kernel_rfl) (jLoad (off := 1) (x := .int .i64 ((N : Nat) : Int)) (s33.at 0 rfl) (by kernel_rfl) (by kernel_rfl)) ?_
      refine Sg.go 1 (by kernel_rfl) ?_
      refine Sg.op (some 33) (by kernel_rfl) (jLen (l := len) (by kernel_rfl)) ?_
      refine Sg.op (some 34) (by kernel_rfl) (jMin (mx := false) (x := ((N : Nat) : Int)) (y := ((len : Nat) : Int)) (z := ((min N len : Nat) : Int)) (by simp only [Bool.false_eq_true, if_false]; split <;> omega) (by kernel_rfl)) ?_
      refine Sg.go 1 (by kernel_rfl) ?_
      refine Sg.done (by kernel_rfl) ?_
      show To Tryz.prog 24 [1, 0, 0, 1, 1, 0, 0, 1, 0, 1, 1, 0, 0, 1, 1, 0, 0, 1, 0, 1, 1, 1] _ _ _ _
      refine To.seq (by kernel_rfl) ?_
      refine To.draw [1, 2, 3, 4, 5, 6, 0, 7, 8, 9] progOk (by kernel_rfl) (by kernel_rfl) ?_
      refine Sd.go (L := [2, 3, 4, 5, 6, 0, 7, 8, 9]) [1] (by kernel_rfl) ?_
      refine Sd.read (some 37) (n) (by kernel_rfl) (by kernel_rfl) (by kernel_rfl) trivial (jLoad (off := 1) (x := .int .i64 ((N : Nat) : Int)) (s33.at 0 rfl) (by kernel_rfl) (by kernel_rfl)) ?_
      refine Sd.go (L := [5, 6, 0, 7, 8, 9]) [3, 4] (by kernel_rfl) ?_
      refine Sd.read (some 40) (did) (by kernel_rfl) (by kernel_rfl) (by kernel_rfl) trivial (jSlice (id := did) (off := off) (sz := 1) (len := len) (cap := cap) (lo := none) (hi := some (min N len)) (L := Ld) (l := 0) (h := min N len) (size_mono s33.mono hL1) rfl rfl (by omega) (by omega) (fun c hc => by have := hcap c hc; omega) (by omega) (by kernel_rfl)) ?_
      obtain ⟨_, X34, n35, hc36, hm37, ht38, ⟨g, rfl, hg⟩⟩ := (fit1_pure (N := N) _ (hd.cut (cap' := cap.map (· - 0)) (l := 0) (h := min N len) (by omega) (by omega)) (by omega) s33.topX : PureC 41 [vf (.int .i64 ((N : Nat) : Int)), vf (.sl (did) (off + 0 * 1) 1 (min N len - 0) (cap.map (· - 0)))] Y (n32) _)
      obtain ⟨H39, hc40, s41⟩ := s33.call hc36 hm37 ht38
      have hm0 := hm0.tr hm37
      have hd := hd.mono hm37
      have hA2 := hA2.mono fun _ _ q => q.mono hm37
      have hA := hA.mono fun _ _ q => q.mono hm37
      refine Sd.eff (some 41) (by kernel_rfl) (by kernel_rfl) (jCall (by kernel_rfl) hc40 (by kernel_rfl)) ⟨.inl (by kernel_rfl), .inl (by kernel_rfl), trivial⟩ ?_
      refine Sd.go (L := [7, 8, 9]) [0] (by kernel_rfl) ?_
      obtain ⟨X42, H43, s44, m45, f46, J47⟩ := jNewF s41 (.cells [g] true)
      have hm0 := hm0.tr m45
      have hd := hd.mono m45
      have hA2 := hA2.mono fun _ _ q => q.mono m45
      have hA := hA.mono fun _ _ q => q.mono m45
      have hg := hg.mono m45
      refine Sd.eff (some 42) (by kernel_rfl) (by kernel_rfl) (J47 _ _ (vf (.sl (n35) (0) 1 (1) none)) (by kernel_rfl)) ⟨.inl (by kernel_rfl), .inl (by kernel_rfl), trivial⟩ ?_
      obtain ⟨a48, H49, n50, ha51, s52, J53⟩ := jAcc (sz := 1) (bytes := 24) (x := .sl (n35) (0) 1 (1) none) (fs := fs2) (new := [g]) (M1 := ([(n, .cells [.int .i64 ((B : Nat) : Int), .int .i64 ((N : Nat) : Int), .int .i64 ((M : Nat) : Int)] true)] ++ accM (a) (fs))) (M2 := []) (by simpa using s44) ha2 (row_all (s44.mono _ _ f46) rfl) (rfl) (by omega) (by omega)
      have s52 : Sep X42 H49 n50 ([(n, .cells [.int .i64 ((B : Nat) : Int), .int .i64 ((N : Nat) : Int), .int .i64 ((M : Nat) : Int)] true)] ++ (accM (a) (fs) ++ (accM (a48) ((fs2 ++ [g])) ++ []))) := by simpa using s52
      refine Sd.eff (some 43) (by kernel_rfl) (by kernel_rfl) (J53 _ _ (by kernel_rfl)) ⟨.inl (by kernel_rfl), .inl (by kernel_rfl), trivial⟩ ?_
      obtain ⟨Le, hL3, hL4⟩ := rowA_size hd.1
      refine Sd.go (L := []) [9] (by kernel_rfl) ?_
      refine Sd.done ?_
      show To Tryz.prog 24 [1, 1, 0, 0, 1, 1, 0, 0, 1, 0, 1, 1, 0, 0, 1, 1, 0, 0, 1, 0, 1, 1, 1] _ _ _ _
      refine To.region (by kernel_rfl) ?_
      refine Sg.go 2 (by kernel_rfl) ?_
      refine Sg.op (some 46) (by kernel_rfl) (jSlice (id := did) (off := off) (sz := 1) (len := len) (cap := cap) (lo := some (min N len)) (hi := none) (L := Le) (l := min N len) (h := len) (size_mono s52.mono hL3) rfl rfl (by omega) (by omega) (fun c hc => by have := hcap c hc; omega) (by omega) (by kernel_rfl)) ?_
      refine Sg.go 1 (by kernel_rfl) ?_
      refine Sg.done (by kernel_rfl) ?_
      show To Tryz.prog 24 [1, 1, 1, 0, 0, 1, 0, 1, 1, 0, 0, 1, 1, 0, 0, 1, 0, 1, 1, 1] _ _ _ _
      refine To.region (by kernel_rfl) ?_
      refine Sg.op (some 47) (by kernel_rfl) (jBin (b_addN (q) (1) (by omega)) (by kernel_rfl)) ?_
      refine Sg.go 1 (by kernel_rfl) ?_
      refine Sg.done (by kernel_rfl) ?_
      exact .inl ⟨rfl, X42, _, _, _, _, _, getsL_spec (ts := [1, 2, 6, 8, 21, 22, 27, 28]) (by kernel_rfl), s52, (hm0), (hA), (ha51), (by rw [range_snoc]; rw [hdl, min_drop] at hg; exact hA2.snoc hg), (by rw [← Nat.add_assoc, ← drop_min, ← hdl]; exact hd.cut (cap' := cap.map (· - min N len)) (by omega) (by omega)), (by rw [← Nat.add_assoc, ← drop_min, List.length_drop, List.length_take, ← hdl]; omega), (fun c hc => by cases cap with | none => cases hc | some c0 => (have := hcap c0 rfl; simp at hc; omega))⟩
    · skip
      obtain ⟨Y, a2, fs2, off, len, cap, hT, s54, hm0, hA, ha2, hA2, hd, hdl, hcap⟩ := hI
      refine To.keep _ ?_ hT.sub
      refine To.seq (by kernel_rfl) ?_
      refine To.region (by kernel_rfl) ?_
      refine Sg.op (some 29) (by kernel_rfl) (jBin (b_lssF .i64 (x := (((kS B N M b) : Nat) : Int)) (y := ((kS B N M b : Nat) : Int)) (by simp)) (by kernel_rfl)) ?_
      refine Sg.done (by kernel_rfl) ?_
      show To Tryz.prog 24 [1, 0, 0, 1, 0, 1, 1, 0, 0, 1, 1, 0, 0, 1, 0, 1, 1, 1] _ _ _ _
      obtain ⟨X55, m56, s57, hrow2, _⟩ := Sep.acc (sz := 1) (M1 := ([(n, .cells [.int .i64 ((B : Nat) : Int), .int .i64 ((N : Nat) : Int), .int .i64 ((M : Nat) : Int)] true)] ++ accM (a) (fs))) (M2 := []) (a := a2) (fs := fs2) (by simpa using s54) ha2
      have hm0 := hm0.tr m56
      have hd := hd.mono m56
      have hA2 := hA2.mono fun _ _ q => q.mono m56
      have hA := hA.mono fun _ _ q => q.mono m56
      have s57 : Sep X55 H31 (n32) ([(n, .cells [.int .i64 ((B : Nat) : Int), .int .i64 ((N : Nat) : Int), .int .i64 ((M : Nat) : Int)] true)] ++ (accM (a) (fs) ++ [])) := by simpa using s57
      have hl := hA.length
      rw [List.length_map, List.length_range] at hl
      refine To.seq (by kernel_rfl) ?_
      refine To.ifF (by kernel_rfl) (by kernel_rfl) ?_
      refine To.exit 3 (by kernel_rfl) ?_
      refine ⟨by simp, ?_⟩
      show To Tryz.prog 24 [1, 1, 1, 0, 0, 1, 1, 0, 0, 1, 0, 1, 1, 1] _ _ _ _
      refine To.region (by kernel_rfl) ?_
      refine Sg.go 2 (by kernel_rfl) ?_
      obtain ⟨X58, H59, s60, m61, f62, J63⟩ := jNewF s57 (.cells [a2] true)
      have hm0 := hm0.tr m61
      have hd := hd.mono m61
      have hA2 := hA2.mono fun _ _ q => q.mono m61
      have hA := hA.mono fun _ _ q => q.mono m61
      have hrow2 := rowA_mono m61 hrow2
      refine Sg.op (some 50) (by kernel_rfl) (J63 _ _ (vf (.sl (n32) (0) 1 (1) none)) (by kernel_rfl)) ?_
      obtain ⟨a64, H65, n66, ha67, s68, J69⟩ := jAcc (sz := 1) (bytes := 24) (x := .sl (n32) (0) 1 (1) none) (fs := fs) (new := [a2]) (M1 := [(n, .cells [.int .i64 ((B : Nat) : Int), .int .i64 ((N : Nat) : Int), .int .i64 ((M : Nat) : Int)] true)]) (M2 := []) s60 ha (row_all (s60.mono _ _ f62) rfl) (rfl) (by omega) (by omega)
      refine Sg.op (some 51) (by kernel_rfl) (J69 _ _ (by kernel_rfl)) ?_
      refine Sg.go 1 (by kernel_rfl) ?_
      refine Sg.done (by kernel_rfl) ?_
      show To Tryz.prog 24 [1, 1, 1, 0, 0, 1, 0, 1, 1, 1] _ _ _ _
      refine To.region (by kernel_rfl) ?_
      refine Sg.op (some 52) (by kernel_rfl) (jBin (b_addN (b) (1) (by omega)) (by kernel_rfl)) ?_
      refine Sg.go 1 (by kernel_rfl) ?_
      refine Sg.done (by kernel_rfl) ?_
      exact .inl ⟨rfl, X58, _, _, _, _, _, getsL_spec (ts := [1, 2, 6, 21, 22]) (by kernel_rfl), s68, (hm0), (ha67), (by rw [range_snoc]; exact hA.snoc ⟨fs2, hrow2, hA2⟩), (hd), (hdl), (hcap)⟩
  · skip
    obtain ⟨Y, a, fs, off, len, cap, hT, s70, hm0, ha, hA, hd, hdl, hcap⟩ := hI
    refine To.keep _ ?_ hT.sub
    refine To.seq (by kernel_rfl) ?_
    refine To.region (by kernel_rfl) ?_
    refine Sg.op (some 23) (by kernel_rfl) (jBin (b_lssF .i64 (x := (((blkS B N M) : Nat) : Int)) (y := ((blkS B N M : Nat) : Int)) (by simp)) (by kernel_rfl)) ?_
    refine Sg.done (by kernel_rfl) ?_
    show To Tryz.prog 24 [1, 0, 0, 1, 0, 1, 1, 1] _ _ _ _
    obtain ⟨X71, m72, s73, hrow, _⟩ := Sep.acc (sz := 1) (M1 := [(n, .cells [.int .i64 ((B : Nat) : Int), .int .i64 ((N : Nat) : Int), .int .i64 ((M : Nat) : Int)] true)]) (M2 := []) (a := a) (fs := fs) (by simpa using s70) ha
    have hm0 := hm0.tr m72
    have hd := hd.mono m72
    have hA := hA.mono fun _ _ q => q.mono m72
    have s73 : Sep X71 H20 (n21) [(n, .cells [.int .i64 ((B : Nat) : Int), .int .i64 ((N : Nat) : Int), .int .i64 ((M : Nat) : Int)] true)] := by simpa using s73
    refine To.seq (by kernel_rfl) ?_
    refine To.ifF (by kernel_rfl) (by kernel_rfl) ?_
    refine To.exit 1 (by kernel_rfl) ?_
    refine ⟨by simp, ?_⟩
    show To Tryz.prog 24 [1, 1, 1, 1] _ _ _ _
    refine To.seq (by kernel_rfl) ?_
    refine To.region (by kernel_rfl) ?_
    refine Sg.go 3 (by kernel_rfl) ?_
    refine Sg.done (by kernel_rfl) ?_
    show To Tryz.prog 24 [1, 1, 1, 1, 1] _ _ _ _
    refine To.ret (by kernel_rfl) ?_
    exact ⟨.inr rfl, _, by kernel_rfl, X71, _, s73, hm0, _, rfl, _, hrow, hA⟩
end Go.Proofs.YtkimkgbppegkhaaGreat.Cm
