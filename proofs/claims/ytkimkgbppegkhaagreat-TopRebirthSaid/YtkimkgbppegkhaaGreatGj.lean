/- The clean machine's walks of cutting: how many symbols, how many blocks, how many symbols a block has. -/
import Derived.Test.YtkimkgbppegkhaaGreatGi
namespace Go.Proofs.YtkimkgbppegkhaaGreat.Cm
open Go Go.RowKit Go.Proofs.YtkimkgbppegkhaaGreat.Gf
set_option maxRecDepth 1000000
/-- a shape that is small -/
structure ShOk (B N M : Nat) : Prop where
  b1 : 1 ≤ B
  b2 : B ≤ 60
  n1 : 1 ≤ N
  n2 : N ≤ 20
  m1 : 1 ≤ M
  m2 : M ≤ 8
def upN (a b : Nat) : Nat := (a - 1) / b + 1
def symS (B N : Nat) : Nat := upN B N
def blkN (s M : Nat) : Nat := upN s M
def kN (s M b : Nat) : Nat := if b < s % blkN s M then s / blkN s M + 1 else s / blkN s M
def sumK (s M : Nat) : Nat → Nat
  | 0 => 0
  | b + 1 => sumK s M b + kN s M b
theorem kN_all : (List.range 61).all (fun s => Nat.beq s 0 || (List.range 9).all (fun M => Nat.beq M 0 || (Nat.ble (blkN s M) s && Nat.beq (sumK s M (blkN s M)) s && (List.range (blkN s M)).all (fun b => Nat.ble 1 (kN s M b) && Nat.ble (kN s M b) 8)))) = true := by kernel_rfl
section
variable {B N M : Nat}
abbrev blkS (B N M : Nat) : Nat := blkN (symS B N) M
abbrev kS (B N M b : Nat) : Nat := kN (symS B N) M b
theorem sym_le (h : ShOk B N M) : 1 ≤ symS B N ∧ symS B N ≤ 60 ∧ B ≤ symS B N * N := by
  obtain ⟨h1, h2, h3, h4, h5, h6⟩ := h
  have e := Nat.div_add_mod (B - 1) N
  have e2 := Nat.mod_lt (B - 1) (show 0 < N by omega)
  have e3 : (B - 1) / N ≤ B - 1 := Nat.div_le_self _ _
  refine ⟨Nat.le_add_left _ _, by show (B - 1) / N + 1 ≤ 60; omega, ?_⟩
  unfold symS upN
  rw [Nat.add_mul, Nat.mul_comm]
  omega
theorem kS_all (h : ShOk B N M) : blkS B N M ≤ symS B N ∧ sumK (symS B N) M (blkS B N M) = symS B N ∧ ∀ b, b < blkS B N M → 1 ≤ kS B N M b ∧ kS B N M b ≤ 8 := by
  obtain ⟨g1, g2, _⟩ := sym_le h
  have h1 := kN_all
  rw [List.all_eq_true] at h1
  have h2 := h1 (symS B N) (List.mem_range.2 (by omega))
  rw [Bool.or_eq_true] at h2
  rcases h2 with h2 | h2
  · have := Nat.eq_of_beq_eq_true h2; omega
  rw [List.all_eq_true] at h2
  have h3 := h2 M (List.mem_range.2 (by have := h.m2; omega))
  rw [Bool.or_eq_true] at h3
  rcases h3 with h3 | h3
  · have := Nat.eq_of_beq_eq_true h3; have := h.m1; omega
  simp only [Bool.and_eq_true] at h3
  obtain ⟨⟨a1, a2⟩, a3⟩ := h3
  refine ⟨Nat.le_of_ble_eq_true a1, Nat.eq_of_beq_eq_true a2, fun b hb => ?_⟩
  rw [List.all_eq_true] at a3
  have := a3 b (List.mem_range.2 hb)
  rw [Bool.and_eq_true] at this
  exact ⟨Nat.le_of_ble_eq_true this.1, Nat.le_of_ble_eq_true this.2⟩
theorem blk_pos (h : ShOk B N M) : 1 ≤ blkS B N M ∧ blkS B N M ≤ 60 := ⟨Nat.le_add_left _ _, by have := (kS_all h).1; have := (sym_le h).2.1; omega⟩
end

theorem within_pure {X : Heap} {n : Nat} {a : Nat} {m : Int} (h1 : 1 ≤ a) (h2 : (a : Int) ≤ m) (ht : Top X n) : PureC 49 [vf (.int .i64 ((a : Nat) : Int)), vf (.int .i64 (m))] X n fun v X' => v = vf (.bool true) := by
  refine PureC.of_to (by kernel_rfl) ?_
  have s0 := Sep.ini ht
  have hm0 : Mono X X := Mono.rfl
  refine To.seq (by kernel_rfl) ?_
  refine To.region (by kernel_rfl) ?_
  refine Sg.go 1 (by kernel_rfl) ?_
  refine Sg.done (by kernel_rfl) ?_
  show To Tryz.prog 49 [1] _ _ _ _
  refine To.seq (by kernel_rfl) ?_
  refine To.region (by kernel_rfl) ?_
  refine Sg.go 1 (by kernel_rfl) ?_
  refine Sg.op (some 6) (by kernel_rfl) (jBin (b_geqT .i64 (x := ((a : Nat) : Int)) (y := (1 : Int)) (by omega)) (by kernel_rfl)) ?_
  refine Sg.go 3 (by kernel_rfl) ?_
  refine Sg.op (some 10) (by kernel_rfl) (jBin (b_leqT .i64 (x := ((a : Nat) : Int)) (y := (m)) (by omega)) (by kernel_rfl)) ?_
  refine Sg.go 2 (by kernel_rfl) ?_
  refine Sg.done (by kernel_rfl) ?_
  show To Tryz.prog 49 [1, 1] _ _ _ _
  refine To.ret (by kernel_rfl) ?_
  exact ⟨.inr rfl, _, by kernel_rfl, X, _, s0, hm0, rfl⟩
theorem right_pure {X : Heap} {n : Nat} {B N M : Nat} (h : ShOk B N M) (ht : Top X n) : PureC 27 [.u (.agg [.int .i64 ((B : Nat) : Int), .int .i64 ((N : Nat) : Int), .int .i64 ((M : Nat) : Int)])] X n fun v X' => v = vf (.bool true) := by
  refine PureC.of_to (by kernel_rfl) ?_
  have s0 := Sep.ini ht
  have hm0 : Mono X X := Mono.rfl
  obtain ⟨hb1, hb2, hn1, hn2, hm1, hm2⟩ := h
  refine To.seq (by kernel_rfl) ?_
  refine To.region (by kernel_rfl) ?_
  obtain ⟨H1, s2, J3⟩ := jNewM s0 (.cells [.int .i64 ((B : Nat) : Int), .int .i64 ((N : Nat) : Int), .int .i64 ((M : Nat) : Int)] true)
  refine Sg.op (some 1) (by kernel_rfl) (J3 _ _ (vf (.ptr (n) (0))) (by kernel_rfl)) ?_
  refine Sg.go 1 (by kernel_rfl) ?_
  refine Sg.done (by kernel_rfl) ?_
  show To Tryz.prog 27 [1] _ _ _ _
  refine To.seq (by kernel_rfl) ?_
  refine To.region (by kernel_rfl) ?_
  refine Sg.go 1 (by kernel_rfl) ?_
  refine Sg.op (some 4) (by kernel_rfl) (jLoad (off := 0) (x := .int .i64 ((B : Nat) : Int)) (s2.at 0 rfl) (by kernel_rfl) (by kernel_rfl)) ?_
  obtain ⟨_, X4, n5, hc6, hm7, ht8, rfl⟩ := (within_pure (m := 4000) hb1 (by omega) s2.topX : PureC 49 [vf (.int .i64 ((B : Nat) : Int)), vf (.int .i64 4000)] X (n + 1) _)
  obtain ⟨H9, hc10, s11⟩ := s2.call hc6 hm7 ht8
  have hm0 := hm0.tr hm7
  refine Sg.op (some 5) (by kernel_rfl) (jCall (by kernel_rfl) hc10 (by kernel_rfl)) ?_
  refine Sg.go 2 (by kernel_rfl) ?_
  refine Sg.op (some 8) (by kernel_rfl) (jLoad (off := 1) (x := .int .i64 ((N : Nat) : Int)) (s11.at 0 rfl) (by kernel_rfl) (by kernel_rfl)) ?_
  obtain ⟨_, X12, n13, hc14, hm15, ht16, rfl⟩ := (within_pure (m := 64) hn1 (by omega) s11.topX : PureC 49 [vf (.int .i64 ((N : Nat) : Int)), vf (.int .i64 64)] X4 (n5) _)
  obtain ⟨H17, hc18, s19⟩ := s11.call hc14 hm15 ht16
  have hm0 := hm0.tr hm15
  refine Sg.op (some 9) (by kernel_rfl) (jCall (by kernel_rfl) hc18 (by kernel_rfl)) ?_
  refine Sg.go 3 (by kernel_rfl) ?_
  refine Sg.op (some 13) (by kernel_rfl) (jLoad (off := 2) (x := .int .i64 ((M : Nat) : Int)) (s19.at 0 rfl) (by kernel_rfl) (by kernel_rfl)) ?_
  obtain ⟨_, X20, n21, hc22, hm23, ht24, rfl⟩ := (within_pure (m := 40) hm1 (by omega) s19.topX : PureC 49 [vf (.int .i64 ((M : Nat) : Int)), vf (.int .i64 40)] X12 (n13) _)
  obtain ⟨H25, hc26, s27⟩ := s19.call hc22 hm23 ht24
  have hm0 := hm0.tr hm23
  refine Sg.op (some 14) (by kernel_rfl) (jCall (by kernel_rfl) hc26 (by kernel_rfl)) ?_
  refine Sg.go 2 (by kernel_rfl) ?_
  refine Sg.done (by kernel_rfl) ?_
  show To Tryz.prog 27 [1, 1] _ _ _ _
  refine To.ret (by kernel_rfl) ?_
  exact ⟨.inr rfl, _, by kernel_rfl, X20, _, s27, hm0, rfl⟩
theorem up_pure {X : Heap} {n : Nat} {a b : Nat} (h1 : 1 ≤ a) (h2 : 1 ≤ b) (h3 : a < 1000000) (ht : Top X n) : PureC 28 [vf (.int .i64 ((a : Nat) : Int)), vf (.int .i64 ((b : Nat) : Int))] X n fun v X' => v = vi (upN a b) := by
  refine PureC.of_to (by kernel_rfl) ?_
  have s0 := Sep.ini ht
  have hm0 : Mono X X := Mono.rfl
  have hq : (a - 1) / b ≤ a - 1 := Nat.div_le_self _ _
  refine To.seq (by kernel_rfl) ?_
  refine To.region (by kernel_rfl) ?_
  refine Sg.go 1 (by kernel_rfl) ?_
  refine Sg.done (by kernel_rfl) ?_
  show To Tryz.prog 28 [1] _ _ _ _
  refine To.seq (by kernel_rfl) ?_
  refine To.region (by kernel_rfl) ?_
  refine Sg.go 1 (by kernel_rfl) ?_
  refine Sg.op (some 6) (by kernel_rfl) (jBin (b_subN (a) (1) (by omega) (by omega)) (by kernel_rfl)) ?_
  refine Sg.go 1 (by kernel_rfl) ?_
  refine Sg.op (some 8) (by kernel_rfl) (jBin (b_quoN ((a) - 1) (b) (by omega) (by omega)) (by kernel_rfl)) ?_
  refine Sg.op (some 9) (by kernel_rfl) (jBin (b_addN (((a) - 1) / (b)) (1) (by omega)) (by kernel_rfl)) ?_
  refine Sg.go 1 (by kernel_rfl) ?_
  refine Sg.done (by kernel_rfl) ?_
  show To Tryz.prog 28 [1, 1] _ _ _ _
  refine To.ret (by kernel_rfl) ?_
  exact ⟨.inr rfl, _, by kernel_rfl, X, _, s0, hm0, rfl⟩
theorem symbols_pure {X : Heap} {n : Nat} {B N M : Nat} (h : ShOk B N M) (ht : Top X n) : PureC 29 [.u (.agg [.int .i64 ((B : Nat) : Int), .int .i64 ((N : Nat) : Int), .int .i64 ((M : Nat) : Int)])] X n fun v X' => v = vi (symS B N) := by
  refine PureC.of_to (by kernel_rfl) ?_
  have s0 := Sep.ini ht
  have hm0 : Mono X X := Mono.rfl
  refine To.seq (by kernel_rfl) ?_
  refine To.region (by kernel_rfl) ?_
  obtain ⟨H28, s29, J30⟩ := jNewM s0 (.cells [.int .i64 ((B : Nat) : Int), .int .i64 ((N : Nat) : Int), .int .i64 ((M : Nat) : Int)] true)
  refine Sg.op (some 1) (by kernel_rfl) (J30 _ _ (vf (.ptr (n) (0))) (by kernel_rfl)) ?_
  refine Sg.go 1 (by kernel_rfl) ?_
  refine Sg.done (by kernel_rfl) ?_
  show To Tryz.prog 29 [1] _ _ _ _
  refine To.seq (by kernel_rfl) ?_
  refine To.seq (by kernel_rfl) ?_
  refine To.region (by kernel_rfl) ?_
  refine Sg.op (some 3) (by kernel_rfl) (jLoadAE (off := 0) (sz := 3) (c := [.int .i64 ((B : Nat) : Int), .int .i64 ((N : Nat) : Int), .int .i64 ((M : Nat) : Int)]) (s29.at 0 rfl) (by simp) rfl (by kernel_rfl)) ?_
  obtain ⟨_, X31, n32, hc33, hm34, ht35, rfl⟩ := (right_pure h s29.topX : PureC 27 [.u (.agg [.int .i64 ((B : Nat) : Int), .int .i64 ((N : Nat) : Int), .int .i64 ((M : Nat) : Int)])] X (n + 1) _)
  obtain ⟨H36, hc37, s38⟩ := s29.call hc33 hm34 ht35
  have hm0 := hm0.tr hm34
  refine Sg.op (some 4) (by kernel_rfl) (jCall (by kernel_rfl) hc37 (by kernel_rfl)) ?_
  refine Sg.go 1 (by kernel_rfl) ?_
  refine Sg.done (by kernel_rfl) ?_
  show To Tryz.prog 29 [1, 0, 1] _ _ _ _
  refine To.ifF (by kernel_rfl) (by kernel_rfl) ?_
  refine To.skip (by kernel_rfl) ?_
  show To Tryz.prog 29 [1, 1] _ _ _ _
  refine To.seq (by kernel_rfl) ?_
  refine To.region (by kernel_rfl) ?_
  refine Sg.go 1 (by kernel_rfl) ?_
  refine Sg.op (some 7) (by kernel_rfl) (jLoad (off := 0) (x := .int .i64 ((B : Nat) : Int)) (s38.at 0 rfl) (by kernel_rfl) (by kernel_rfl)) ?_
  refine Sg.go 1 (by kernel_rfl) ?_
  refine Sg.op (some 9) (by kernel_rfl) (jLoad (off := 1) (x := .int .i64 ((N : Nat) : Int)) (s38.at 0 rfl) (by kernel_rfl) (by kernel_rfl)) ?_
  obtain ⟨_, X39, n40, hc41, hm42, ht43, rfl⟩ := (up_pure h.b1 h.n1 (by have := h.b2; omega) s38.topX : PureC 28 [vf (.int .i64 ((B : Nat) : Int)), vf (.int .i64 ((N : Nat) : Int))] X31 (n32) _)
  obtain ⟨H44, hc45, s46⟩ := s38.call hc41 hm42 ht43
  have hm0 := hm0.tr hm42
  refine Sg.op (some 10) (by kernel_rfl) (jCall (by kernel_rfl) hc45 (by kernel_rfl)) ?_
  refine Sg.go 1 (by kernel_rfl) ?_
  refine Sg.done (by kernel_rfl) ?_
  show To Tryz.prog 29 [1, 1, 1] _ _ _ _
  refine To.ret (by kernel_rfl) ?_
  exact ⟨.inr rfl, _, by kernel_rfl, X39, _, s46, hm0, rfl⟩
theorem blocks_pure {X : Heap} {n : Nat} {B N M : Nat} (h : ShOk B N M) (ht : Top X n) : PureC 10 [.u (.agg [.int .i64 ((B : Nat) : Int), .int .i64 ((N : Nat) : Int), .int .i64 ((M : Nat) : Int)])] X n fun v X' => v = vi (blkS B N M) := by
  refine PureC.of_to (by kernel_rfl) ?_
  have s0 := Sep.ini ht
  have hm0 : Mono X X := Mono.rfl
  refine To.seq (by kernel_rfl) ?_
  refine To.region (by kernel_rfl) ?_
  obtain ⟨H47, s48, J49⟩ := jNewM s0 (.cells [.int .i64 ((B : Nat) : Int), .int .i64 ((N : Nat) : Int), .int .i64 ((M : Nat) : Int)] true)
  refine Sg.op (some 1) (by kernel_rfl) (J49 _ _ (vf (.ptr (n) (0))) (by kernel_rfl)) ?_
  refine Sg.go 1 (by kernel_rfl) ?_
  refine Sg.done (by kernel_rfl) ?_
  show To Tryz.prog 10 [1] _ _ _ _
  refine To.seq (by kernel_rfl) ?_
  refine To.seq (by kernel_rfl) ?_
  refine To.region (by kernel_rfl) ?_
  refine Sg.op (some 3) (by kernel_rfl) (jLoadAE (off := 0) (sz := 3) (c := [.int .i64 ((B : Nat) : Int), .int .i64 ((N : Nat) : Int), .int .i64 ((M : Nat) : Int)]) (s48.at 0 rfl) (by simp) rfl (by kernel_rfl)) ?_
  obtain ⟨_, X50, n51, hc52, hm53, ht54, rfl⟩ := (right_pure h s48.topX : PureC 27 [.u (.agg [.int .i64 ((B : Nat) : Int), .int .i64 ((N : Nat) : Int), .int .i64 ((M : Nat) : Int)])] X (n + 1) _)
  obtain ⟨H55, hc56, s57⟩ := s48.call hc52 hm53 ht54
  have hm0 := hm0.tr hm53
  refine Sg.op (some 4) (by kernel_rfl) (jCall (by kernel_rfl) hc56 (by kernel_rfl)) ?_
  refine Sg.go 1 (by kernel_rfl) ?_
  refine Sg.done (by kernel_rfl) ?_
  show To Tryz.prog 10 [1, 0, 1] _ _ _ _
  refine To.ifF (by kernel_rfl) (by kernel_rfl) ?_
  refine To.skip (by kernel_rfl) ?_
  show To Tryz.prog 10 [1, 1] _ _ _ _
  refine To.seq (by kernel_rfl) ?_
  refine To.draw [0, 1, 2, 3, 4, 5] progOk (by kernel_rfl) (by kernel_rfl) ?_
  refine Sd.read (some 6) (n) (by kernel_rfl) (by kernel_rfl) (by kernel_rfl) trivial (jLoadAE (off := 0) (sz := 3) (c := [.int .i64 ((B : Nat) : Int), .int .i64 ((N : Nat) : Int), .int .i64 ((M : Nat) : Int)]) (s57.at 0 rfl) (by simp) rfl (by kernel_rfl)) ?_
  obtain ⟨_, X58, n59, hc60, hm61, ht62, rfl⟩ := (symbols_pure h s57.topX : PureC 29 [.u (.agg [.int .i64 ((B : Nat) : Int), .int .i64 ((N : Nat) : Int), .int .i64 ((M : Nat) : Int)])] X50 (n51) _)
  obtain ⟨H63, hc64, s65⟩ := s57.call hc60 hm61 ht62
  have hm0 := hm0.tr hm61
  refine Sd.eff (some 7) (by kernel_rfl) (by kernel_rfl) (jCall (by kernel_rfl) hc64 (by kernel_rfl)) ⟨.inl (by kernel_rfl), trivial⟩ ?_
  refine Sd.go (L := [3, 4, 5]) [2] (by kernel_rfl) ?_
  refine Sd.read (some 9) (n) (by kernel_rfl) (by kernel_rfl) (by kernel_rfl) ⟨.inr ((s57.at 0 rfl).trans (s65.at 0 rfl).symm), trivial⟩ (jLoad (off := 2) (x := .int .i64 ((M : Nat) : Int)) (s65.at 0 rfl) (by kernel_rfl) (by kernel_rfl)) ?_
  obtain ⟨_, X66, n67, hc68, hm69, ht70, rfl⟩ := (up_pure (sym_le h).1 h.m1 (by have := (sym_le h).2.1; omega) s65.topX : PureC 28 [vf (.int .i64 ((symS B N : Nat) : Int)), vf (.int .i64 ((M : Nat) : Int))] X58 (n59) _)
  obtain ⟨H71, hc72, s73⟩ := s65.call hc68 hm69 ht70
  have hm0 := hm0.tr hm69
  refine Sd.eff (some 10) (by kernel_rfl) (by kernel_rfl) (jCall (by kernel_rfl) hc72 (by kernel_rfl)) ⟨.inl (by kernel_rfl), .inl (by kernel_rfl), trivial⟩ ?_
  refine Sd.go (L := []) [5] (by kernel_rfl) ?_
  refine Sd.done ?_
  show To Tryz.prog 10 [1, 1, 1] _ _ _ _
  refine To.ret (by kernel_rfl) ?_
  exact ⟨.inr rfl, _, by kernel_rfl, X66, _, s73, hm0, rfl⟩
theorem k_pure {X : Heap} {n : Nat} {B N M b : Nat} (h : ShOk B N M) (hb : b < blkS B N M) (ht : Top X n) : PureC 11 [.u (.agg [.int .i64 ((B : Nat) : Int), .int .i64 ((N : Nat) : Int), .int .i64 ((M : Nat) : Int)]), vf (.int .i64 ((b : Nat) : Int))] X n fun v X' => v = vi (kS B N M b) := by
  refine PureC.of_to (by kernel_rfl) ?_
  have s0 := Sep.ini ht
  have hm0 : Mono X X := Mono.rfl
  have hbp := blk_pos h
  have hsl := sym_le h
  have hdv : symS B N / blkS B N M ≤ symS B N := Nat.div_le_self _ _
  refine To.seq (by kernel_rfl) ?_
  refine To.region (by kernel_rfl) ?_
  obtain ⟨H74, s75, J76⟩ := jNewM s0 (.cells [.int .i64 ((B : Nat) : Int), .int .i64 ((N : Nat) : Int), .int .i64 ((M : Nat) : Int)] true)
  refine Sg.op (some 2) (by kernel_rfl) (J76 _ _ (vf (.ptr (n) (0))) (by kernel_rfl)) ?_
  refine Sg.go 1 (by kernel_rfl) ?_
  refine Sg.done (by kernel_rfl) ?_
  show To Tryz.prog 11 [1] _ _ _ _
  refine To.seq (by kernel_rfl) ?_
  refine To.region (by kernel_rfl) ?_
  refine Sg.op (some 7) (by kernel_rfl) (jLoadAE (off := 0) (sz := 3) (c := [.int .i64 ((B : Nat) : Int), .int .i64 ((N : Nat) : Int), .int .i64 ((M : Nat) : Int)]) (s75.at 0 rfl) (by simp) rfl (by kernel_rfl)) ?_
  obtain ⟨_, X77, n78, hc79, hm80, ht81, rfl⟩ := (blocks_pure h s75.topX : PureC 10 [.u (.agg [.int .i64 ((B : Nat) : Int), .int .i64 ((N : Nat) : Int), .int .i64 ((M : Nat) : Int)])] X (n + 1) _)
  obtain ⟨H82, hc83, s84⟩ := s75.call hc79 hm80 ht81
  have hm0 := hm0.tr hm80
  refine Sg.op (some 8) (by kernel_rfl) (jCall (by kernel_rfl) hc83 (by kernel_rfl)) ?_
  refine Sg.go 1 (by kernel_rfl) ?_
  refine Sg.done (by kernel_rfl) ?_
  show To Tryz.prog 11 [1, 1] _ _ _ _
  refine To.seq (by kernel_rfl) ?_
  refine To.seq (by kernel_rfl) ?_
  refine To.region (by kernel_rfl) ?_
  refine Sg.go 1 (by kernel_rfl) ?_
  refine Sg.op (some 10) (by kernel_rfl) (jBin (b_lssF .i64 (x := ((b : Nat) : Int)) (y := (0 : Int)) (by omega)) (by kernel_rfl)) ?_
  refine Sg.go 3 (by kernel_rfl) ?_
  refine Sg.op (some 14) (by kernel_rfl) (jBin (b_geqF .i64 (x := ((b : Nat) : Int)) (y := ((blkS B N M : Nat) : Int)) (by omega)) (by kernel_rfl)) ?_
  refine Sg.go 1 (by kernel_rfl) ?_
  refine Sg.done (by kernel_rfl) ?_
  show To Tryz.prog 11 [1, 0, 1, 1] _ _ _ _
  refine To.ifF (by kernel_rfl) (by kernel_rfl) ?_
  refine To.skip (by kernel_rfl) ?_
  show To Tryz.prog 11 [1, 1, 1] _ _ _ _
  refine To.seq (by kernel_rfl) ?_
  refine To.region (by kernel_rfl) ?_
  refine Sg.op (some 16) (by kernel_rfl) (jLoadAE (off := 0) (sz := 3) (c := [.int .i64 ((B : Nat) : Int), .int .i64 ((N : Nat) : Int), .int .i64 ((M : Nat) : Int)]) (s84.at 0 rfl) (by simp) rfl (by kernel_rfl)) ?_
  obtain ⟨_, X85, n86, hc87, hm88, ht89, rfl⟩ := (symbols_pure h s84.topX : PureC 29 [.u (.agg [.int .i64 ((B : Nat) : Int), .int .i64 ((N : Nat) : Int), .int .i64 ((M : Nat) : Int)])] X77 (n78) _)
  obtain ⟨H90, hc91, s92⟩ := s84.call hc87 hm88 ht89
  have hm0 := hm0.tr hm88
  refine Sg.op (some 17) (by kernel_rfl) (jCall (by kernel_rfl) hc91 (by kernel_rfl)) ?_
  rcases Nat.lt_or_ge b (symS B N % blkS B N M) with hc | hc
  · skip
    refine Sg.go 1 (by kernel_rfl) ?_
    refine Sg.done (by kernel_rfl) ?_
    show To Tryz.prog 11 [1, 1, 1, 1] _ _ _ _
    refine To.seq (by kernel_rfl) ?_
    refine To.seq (by kernel_rfl) ?_
    refine To.region (by kernel_rfl) ?_
    refine Sg.go 3 (by kernel_rfl) ?_
    refine Sg.op (some 21) (by kernel_rfl) (jBin (b_remN (symS B N) (blkS B N M) (by omega)) (by kernel_rfl)) ?_
    refine Sg.op (some 22) (by kernel_rfl) (jBin (b_lssT .i64 (x := ((b : Nat) : Int)) (y := (((symS B N) % (blkS B N M) : Nat) : Int)) (by omega)) (by kernel_rfl)) ?_
    refine Sg.done (by kernel_rfl) ?_
    show To Tryz.prog 11 [1, 0, 1, 1, 1, 1] _ _ _ _
    refine To.ifT (by kernel_rfl) (by kernel_rfl) ?_
    refine To.seq (by kernel_rfl) ?_
    refine To.region (by kernel_rfl) ?_
    refine Sg.go 2 (by kernel_rfl) ?_
    refine Sg.op (some 25) (by kernel_rfl) (jBin (b_quoN (symS B N) (blkS B N M) (by omega) (by omega)) (by kernel_rfl)) ?_
    refine Sg.op (some 26) (by kernel_rfl) (jBin (b_addN ((symS B N) / (blkS B N M)) (1) (by omega)) (by kernel_rfl)) ?_
    refine Sg.go 1 (by kernel_rfl) ?_
    refine Sg.done (by kernel_rfl) ?_
    show To Tryz.prog 11 [1, 0, 1, 0, 1, 1, 1, 1] _ _ _ _
    refine To.ret (by kernel_rfl) ?_
    exact ⟨.inr rfl, _, by kernel_rfl, X85, _, s92, hm0, by show _ = vi (if b < symS B N % blkN (symS B N) M then _ else _); rw [if_pos hc]⟩
  · skip
    refine Sg.go 1 (by kernel_rfl) ?_
    refine Sg.done (by kernel_rfl) ?_
    show To Tryz.prog 11 [1, 1, 1, 1] _ _ _ _
    refine To.seq (by kernel_rfl) ?_
    refine To.seq (by kernel_rfl) ?_
    refine To.region (by kernel_rfl) ?_
    refine Sg.go 3 (by kernel_rfl) ?_
    refine Sg.op (some 21) (by kernel_rfl) (jBin (b_remN (symS B N) (blkS B N M) (by omega)) (by kernel_rfl)) ?_
    refine Sg.op (some 22) (by kernel_rfl) (jBin (b_lssF .i64 (x := ((b : Nat) : Int)) (y := (((symS B N) % (blkS B N M) : Nat) : Int)) (by omega)) (by kernel_rfl)) ?_
    refine Sg.done (by kernel_rfl) ?_
    show To Tryz.prog 11 [1, 0, 1, 1, 1, 1] _ _ _ _
    refine To.ifF (by kernel_rfl) (by kernel_rfl) ?_
    refine To.skip (by kernel_rfl) ?_
    show To Tryz.prog 11 [1, 1, 1, 1, 1] _ _ _ _
    refine To.seq (by kernel_rfl) ?_
    refine To.region (by kernel_rfl) ?_
    refine Sg.go 2 (by kernel_rfl) ?_
    refine Sg.op (some 29) (by kernel_rfl) (jBin (b_quoN (symS B N) (blkS B N M) (by omega) (by omega)) (by kernel_rfl)) ?_
    refine Sg.go 1 (by kernel_rfl) ?_
    refine Sg.done (by kernel_rfl) ?_
    show To Tryz.prog 11 [1, 1, 1, 1, 1, 1] _ _ _ _
    refine To.ret (by kernel_rfl) ?_
    exact ⟨.inr rfl, _, by kernel_rfl, X85, _, s92, hm0, by show _ = vi (if b < symS B N % blkN (symS B N) M then _ else _); rw [if_neg (by show ¬ b < symS B N % blkS B N M; omega)]⟩
end Go.Proofs.YtkimkgbppegkhaaGreat.Cm
