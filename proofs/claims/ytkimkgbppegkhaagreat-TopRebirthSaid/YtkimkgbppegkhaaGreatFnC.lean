/- The clean machine's walks of the elements' functions: powers and inverses; numbers that are drawn. -/
import Derived.Test.YtkimkgbppegkhaaGreatFnB
namespace Go.Proofs.YtkimkgbppegkhaaGreat.Cm
open Go Go.RowKit Go.Proofs.YtkimkgbppegkhaaGreat.Gf
theorem power_loop {H : Heap} {n : Nat} : ∀ (k a e out : Nat) (K : Ko), a < 256 → out < 256 → e < 2 ^ k → k ≤ 8 → (∀ A, A 5 = some (vb (pwN k a e out)) → K (.exit 0) A H n) →
    ToL Tryz.prog 197 [0, 0, 0, 1, 1] (tl [(0, vb a), (1, vi e), (5, vb out)]) H n K := by
  intro k
  induction k with
  | zero =>
    intro a e out K ha ho h h8 hK
    have he : e = 0 := by omega
    subst he
    refine ToL.round ?_
    refine To.seq (by kernel_rfl) ?_
    refine To.seq (by kernel_rfl) ?_
    refine To.region (by kernel_rfl) ?_
    refine Sg.go 2 (by kernel_rfl) ?_
    refine Sg.done (by kernel_rfl) ?_
    show To Tryz.prog 197 [1, 0, 0, 0, 0, 1, 1] _ _ _ _
    refine To.ifF (by kernel_rfl) (by kernel_rfl) ?_
    refine To.exit 0 (by kernel_rfl) ?_
    exact hK _ (by simp only [pwN]; kernel_rfl)
  | succ k ih =>
    intro a e out K ha ho h h8 hK
    rw [Nat.pow_succ] at h
    have h256 : 2 ^ k ≤ 2 ^ 8 := Nat.pow_le_pow_right (by omega) (by omega)
    have hb1 : e &&& 1 = e % 2 := Nat.and_one_is_mod e
    refine ToL.round ?_
    refine To.seq (by kernel_rfl) ?_
    refine To.seq (by kernel_rfl) ?_
    refine To.region (by kernel_rfl) ?_
    refine Sg.go 2 (by kernel_rfl) ?_
    refine Sg.done (by kernel_rfl) ?_
    show To Tryz.prog 197 [1, 0, 0, 0, 0, 1, 1] _ _ _ _
    refine To.ifB (ltI 0 (e : Int)) (by kernel_rfl) (by kernel_rfl) (fun h0 => ?_) (fun h0 => ?_)
    · skip
      have h2 : ¬ e = 0 := by have := ltI_true h0; omega
      refine To.skip (by kernel_rfl) ?_
      show To Tryz.prog 197 [1, 0, 0, 0, 1, 1] _ _ _ _
      refine To.seq (by kernel_rfl) ?_
      refine To.block 1 (by kernel_rfl) ?_
      refine To.seq (by kernel_rfl) ?_
      refine To.seq (by kernel_rfl) ?_
      refine To.region (by kernel_rfl) ?_
      refine Sg.go 1 (by kernel_rfl) ?_
      refine Sg.op (some 11) (by kernel_rfl) (jBin (b_and .i64 e 1 (show e ≤ 9223372036854775807 by omega) (show 1 ≤ 9223372036854775807 by omega)) (by kernel_rfl)) ?_
      refine Sg.go 1 (by kernel_rfl) ?_
      refine Sg.done (by kernel_rfl) ?_
      show To Tryz.prog 197 [1, 0, 0, 0, 1, 0, 0, 0, 1, 1] _ _ _ _
      refine To.ifB (eqI ((e &&& 1 : Nat) : Int) 1) (by kernel_rfl) (by kernel_rfl) (fun h1 => ?_) (fun h1 => ?_)
      · skip
        have h3 : e % 2 = 1 := by have := eqI_true h1; omega
        refine To.region (by kernel_rfl) ?_
        refine Sg.go 2 (by kernel_rfl) ?_
        refine Sg.op (some 15) (by kernel_rfl) (jCall (by kernel_rfl) (times_any out a ho ha H n) (by kernel_rfl)) ?_
        refine Sg.go 1 (by kernel_rfl) ?_
        refine Sg.done (by kernel_rfl) ?_
        show To Tryz.prog 197 [1, 0, 0, 1, 0, 0, 0, 1, 1] _ _ _ _
        refine To.region (by kernel_rfl) ?_
        refine Sg.go 2 (by kernel_rfl) ?_
        refine Sg.op (some 18) (by kernel_rfl) (jCall (by kernel_rfl) (times_any a a ha ha H n) (by kernel_rfl)) ?_
        refine Sg.go 1 (by kernel_rfl) ?_
        refine Sg.done (by kernel_rfl) ?_
        show To Tryz.prog 197 [1, 1, 0, 0, 0, 1, 1] _ _ _ _
        refine To.region (by kernel_rfl) ?_
        refine Sg.go 1 (by kernel_rfl) ?_
        refine Sg.op (some 9) (by kernel_rfl) (jBin (b_shr .i64 .u64 e 1) (by kernel_rfl)) ?_
        refine Sg.go 1 (by kernel_rfl) ?_
        refine Sg.done (by kernel_rfl) ?_
        refine ToL.only [0, 1, 5] [(0, vb (gm a a)), (1, vi (e / 2)), (5, vb (gm out a))] (by kernel_rfl) ?_
        exact ih _ _ _ _ (gm_lt ha) (gm_lt ho) (by omega) (by omega) (fun A hA => hK A (by rw [hA]; simp only [pwN, h2, h3, if_true, if_false]))
      · skip
        have h3 : ¬ e % 2 = 1 := by have := eqI_false h1; omega
        refine To.skip (by kernel_rfl) ?_
        show To Tryz.prog 197 [1, 0, 0, 1, 0, 0, 0, 1, 1] _ _ _ _
        refine To.region (by kernel_rfl) ?_
        refine Sg.go 2 (by kernel_rfl) ?_
        refine Sg.op (some 18) (by kernel_rfl) (jCall (by kernel_rfl) (times_any a a ha ha H n) (by kernel_rfl)) ?_
        refine Sg.go 1 (by kernel_rfl) ?_
        refine Sg.done (by kernel_rfl) ?_
        show To Tryz.prog 197 [1, 1, 0, 0, 0, 1, 1] _ _ _ _
        refine To.region (by kernel_rfl) ?_
        refine Sg.go 1 (by kernel_rfl) ?_
        refine Sg.op (some 9) (by kernel_rfl) (jBin (b_shr .i64 .u64 e 1) (by kernel_rfl)) ?_
        refine Sg.go 1 (by kernel_rfl) ?_
        refine Sg.done (by kernel_rfl) ?_
        refine ToL.only [0, 1, 5] [(0, vb (gm a a)), (1, vi (e / 2)), (5, vb (out))] (by kernel_rfl) ?_
        exact ih _ _ _ _ (gm_lt ha) ho (by omega) (by omega) (fun A hA => hK A (by rw [hA]; simp only [pwN, h2, h3, if_true, if_false]))
    · skip
      refine To.exit 0 (by kernel_rfl) ?_
      have h2 : e = 0 := by have := ltI_false h0; omega
      subst h2
      exact hK _ (by simp only [pwN, if_true]; kernel_rfl)
theorem power_any (a e : Nat) (ha : a < 256) (he : e < 256) (H : Heap) (n : Nat) : CallsC Tryz.prog 197 [vb a, vi e] H n (vb (pwN 8 a e 1)) H n := by
  have h : ∃ v H' n', CallsC Tryz.prog 197 [vb a, vi e] H n v H' n' ∧ (v = vb (pwN 8 a e 1) ∧ H' = H ∧ n' = n) := by
    refine CallsC.of_to (by kernel_rfl) ?_
    refine To.seq (by kernel_rfl) ?_
    refine To.region (by kernel_rfl) ?_
    refine Sg.go 1 (by kernel_rfl) ?_
    refine Sg.done (by kernel_rfl) ?_
    show To Tryz.prog 197 [1] _ _ _ _
    refine To.seq (by kernel_rfl) ?_
    refine To.region (by kernel_rfl) ?_
    refine Sg.go 1 (by kernel_rfl) ?_
    refine Sg.done (by kernel_rfl) ?_
    show To Tryz.prog 197 [1, 1] _ _ _ _
    refine To.seq (by kernel_rfl) ?_
    refine To.block 0 (by kernel_rfl) ?_
    refine To.loop (by kernel_rfl) ?_
    refine ToL.only [0, 1, 5] [(0, vb a), (1, vi e), (5, vb 1)] (by kernel_rfl) ?_
    refine power_loop 8 a e 1 _ ha (by omega) (by omega) (by omega) (fun A hA => ?_)
    show To Tryz.prog 197 [1, 1, 1] _ _ _ _
    refine To.only [5] [(5, vb (pwN 8 a e 1))] (by simp only [getsL, hA]) ?_
    refine To.seq (by kernel_rfl) ?_
    refine To.region (by kernel_rfl) ?_
    refine Sg.go 2 (by kernel_rfl) ?_
    refine Sg.done (by kernel_rfl) ?_
    show To Tryz.prog 197 [1, 1, 1, 1] _ _ _ _
    refine To.ret (by kernel_rfl) ?_
    exact ⟨.inr rfl, _, by kernel_rfl, rfl, rfl, rfl⟩
  obtain ⟨v, H', n', h1, rfl, rfl, rfl⟩ := h
  exact h1
theorem inv_any (a : Nat) (ha : a < 256) (H : Heap) (n : Nat) : CallsC Tryz.prog 140 [vb a] H n (vb (iv a)) H n := by
  have h : ∃ v H' n', CallsC Tryz.prog 140 [vb a] H n v H' n' ∧ (v = vb (iv a) ∧ H' = H ∧ n' = n) := by
    refine CallsC.of_to (by kernel_rfl) ?_
    refine To.seq (by kernel_rfl) ?_
    refine To.region (by kernel_rfl) ?_
    refine Sg.go 1 (by kernel_rfl) ?_
    refine Sg.done (by kernel_rfl) ?_
    show To Tryz.prog 140 [1] _ _ _ _
    refine To.seq (by kernel_rfl) ?_
    refine To.region (by kernel_rfl) ?_
    refine Sg.go 1 (by kernel_rfl) ?_
    refine Sg.op (some 4) (by kernel_rfl) (jCall (by kernel_rfl) (power_any a 254 ha (by omega) H n) (by kernel_rfl)) ?_
    refine Sg.go 1 (by kernel_rfl) ?_
    refine Sg.done (by kernel_rfl) ?_
    show To Tryz.prog 140 [1, 1] _ _ _ _
    refine To.ret (by kernel_rfl) ?_
    exact ⟨.inr rfl, _, by kernel_rfl, rfl, rfl, rfl⟩
  obtain ⟨v, H', n', h1, rfl, rfl, rfl⟩ := h
  exact h1
def M32 : Nat := 4294967296
def stirN (x : Nat) : Nat :=
  let a := x ^^^ (x / 65536)
  let b := (a * 2146121005) % 4294967296
  let c := b ^^^ (b / 32768)
  let d := (c * 2221713035) % 4294967296
  d ^^^ (d / 65536)
theorem xor32 {a b : Nat} (ha : a < 4294967296) (hb : b < 4294967296) : a ^^^ b < 4294967296 := Nat.xor_lt_two_pow (n := 32) ha hb
theorem wrap32 {z : Nat} (x : Int) (h : x % 4294967296 = z) : IntKind.u32.wrap x = (z : Int) := by
  simp only [IntKind.wrap, IntKind.bits, IntKind.signed]
  simpa using h
theorem stirN_lt {x : Nat} : stirN x < 4294967296 := by
  unfold stirN
  exact xor32 (Nat.mod_lt _ (by omega)) (Nat.lt_of_le_of_lt (Nat.div_le_self _ _) (Nat.mod_lt _ (by omega)))
theorem stir_any (x : Nat) (hx : x < 4294967296) (H : Heap) (n : Nat) : CallsC Tryz.prog 50 [vw x] H n (vw (stirN x)) H n := by
  have h : ∃ v H' n', CallsC Tryz.prog 50 [vw x] H n v H' n' ∧ (v = vw (stirN x) ∧ H' = H ∧ n' = n) := by
    obtain ⟨a, ha⟩ : ∃ a, a = x ^^^ (x / 65536) := ⟨_, rfl⟩
    obtain ⟨b, hb⟩ : ∃ b, b = (a * 2146121005) % 4294967296 := ⟨_, rfl⟩
    obtain ⟨c, hc⟩ : ∃ c, c = b ^^^ (b / 32768) := ⟨_, rfl⟩
    obtain ⟨d, hd⟩ : ∃ d, d = (c * 2221713035) % 4294967296 := ⟨_, rfl⟩
    have hs : stirN x = d ^^^ (d / 65536) := by rw [hd, hc, hb, ha]; rfl
    have h1 : x / 65536 < 4294967296 := by omega
    have h2 : a < 4294967296 := by rw [ha]; exact xor32 hx h1
    have h3 : b < 4294967296 := by omega
    have h4 : b / 32768 < 4294967296 := by omega
    have h5 : c < 4294967296 := by rw [hc]; exact xor32 h3 h4
    have h6 : d < 4294967296 := by omega
    have h7 : d / 65536 < 4294967296 := by omega
    have h8 := xor32 h6 h7
    refine CallsC.of_to (by kernel_rfl) ?_
    refine To.seq (by kernel_rfl) ?_
    refine To.region (by kernel_rfl) ?_
    refine Sg.go 1 (by kernel_rfl) ?_
    refine Sg.done (by kernel_rfl) ?_
    show To Tryz.prog 50 [1] _ _ _ _
    refine To.seq (by kernel_rfl) ?_
    refine To.region (by kernel_rfl) ?_
    refine Sg.go 2 (by kernel_rfl) ?_
    refine Sg.op (some 5) (by kernel_rfl) (jBin (b_shr .u32 .u64 x 16) (by kernel_rfl)) ?_
    refine Sg.op (some 6) (by kernel_rfl) (jBin (b_xor .u32 x (x / 65536) (show x ≤ 4294967295 by omega) (show (x / 65536) ≤ 4294967295 by omega) (show _ ≤ 4294967295 by have := xor32 hx h1; omega)) (by kernel_rfl)) ?_
    refine Sg.go 1 (by kernel_rfl) ?_
    refine Sg.done (by kernel_rfl) ?_
    show To Tryz.prog 50 [1, 1] _ _ _ _
    refine To.only [0] [(0, vw a)] (by rw [ha]; kernel_rfl) ?_
    refine To.seq (by kernel_rfl) ?_
    refine To.region (by kernel_rfl) ?_
    refine Sg.go 1 (by kernel_rfl) ?_
    refine Sg.op (some 8) (by kernel_rfl) (jBin (b_mul .u32 a 2146121005 b (wrap32 _ (by omega))) (by kernel_rfl)) ?_
    refine Sg.go 1 (by kernel_rfl) ?_
    refine Sg.done (by kernel_rfl) ?_
    show To Tryz.prog 50 [1, 1, 1] _ _ _ _
    refine To.seq (by kernel_rfl) ?_
    refine To.region (by kernel_rfl) ?_
    refine Sg.go 2 (by kernel_rfl) ?_
    refine Sg.op (some 11) (by kernel_rfl) (jBin (b_shr .u32 .u64 b 15) (by kernel_rfl)) ?_
    refine Sg.op (some 12) (by kernel_rfl) (jBin (b_xor .u32 b (b / 32768) (show b ≤ 4294967295 by omega) (show (b / 32768) ≤ 4294967295 by omega) (show _ ≤ 4294967295 by have := xor32 h3 h4; omega)) (by kernel_rfl)) ?_
    refine Sg.go 1 (by kernel_rfl) ?_
    refine Sg.done (by kernel_rfl) ?_
    show To Tryz.prog 50 [1, 1, 1, 1] _ _ _ _
    refine To.only [0] [(0, vw c)] (by rw [hc]; kernel_rfl) ?_
    refine To.seq (by kernel_rfl) ?_
    refine To.region (by kernel_rfl) ?_
    refine Sg.go 1 (by kernel_rfl) ?_
    refine Sg.op (some 14) (by kernel_rfl) (jBin (b_mul .u32 c 2221713035 d (wrap32 _ (by omega))) (by kernel_rfl)) ?_
    refine Sg.go 1 (by kernel_rfl) ?_
    refine Sg.done (by kernel_rfl) ?_
    show To Tryz.prog 50 [1, 1, 1, 1, 1] _ _ _ _
    refine To.seq (by kernel_rfl) ?_
    refine To.region (by kernel_rfl) ?_
    refine Sg.go 2 (by kernel_rfl) ?_
    refine Sg.op (some 17) (by kernel_rfl) (jBin (b_shr .u32 .u64 d 16) (by kernel_rfl)) ?_
    refine Sg.op (some 18) (by kernel_rfl) (jBin (b_xor .u32 d (d / 65536) (show d ≤ 4294967295 by omega) (show (d / 65536) ≤ 4294967295 by omega) (show _ ≤ 4294967295 by have := h8; omega)) (by kernel_rfl)) ?_
    refine Sg.go 1 (by kernel_rfl) ?_
    refine Sg.done (by kernel_rfl) ?_
    show To Tryz.prog 50 [1, 1, 1, 1, 1, 1] _ _ _ _
    refine To.ret (by kernel_rfl) ?_
    exact ⟨.inr rfl, _, by kernel_rfl, by rw [hs], rfl, rfl⟩
  obtain ⟨v, H', n', h1, rfl, rfl, rfl⟩ := h
  exact h1
def randN (y i m : Nat) : Nat := stirN ((stirN y + (i * 2654435769) % 4294967296) % 4294967296) % m
theorem rand_any (y i m : Nat) (hy : y < 4294967296) (hi : i < 4294967296) (hm : 1 ≤ m) (hm2 : m < 9223372036854775808) (H : Heap) (n : Nat) : CallsC Tryz.prog 30 [vw y, vw i, vi m] H n (vi (randN y i m)) H n := by
  have h : ∃ v H' n', CallsC Tryz.prog 30 [vw y, vw i, vi m] H n v H' n' ∧ (v = vi (randN y i m) ∧ H' = H ∧ n' = n) := by
    obtain ⟨a, ha⟩ : ∃ a, a = (i * 2654435769) % 4294967296 := ⟨_, rfl⟩
    obtain ⟨b, hb⟩ : ∃ b, b = (stirN y + a) % 4294967296 := ⟨_, rfl⟩
    have hs : randN y i m = stirN b % m := by rw [hb, ha]; rfl
    have h1 : b < 4294967296 := by omega
    have h2 := stirN_lt (x := b)
    have hw : IntKind.i64.wrap (stirN b : Int) = (stirN b : Int) := wrap64 rfl (Nat.lt_trans h2 (by decide))
    refine CallsC.of_to (by kernel_rfl) ?_
    refine To.seq (by kernel_rfl) ?_
    refine To.region (by kernel_rfl) ?_
    refine Sg.go 1 (by kernel_rfl) ?_
    refine Sg.done (by kernel_rfl) ?_
    show To Tryz.prog 30 [1] _ _ _ _
    refine To.seq (by kernel_rfl) ?_
    refine To.seq (by kernel_rfl) ?_
    refine To.region (by kernel_rfl) ?_
    refine Sg.go 2 (by kernel_rfl) ?_
    refine Sg.done (by kernel_rfl) ?_
    show To Tryz.prog 30 [1, 0, 1] _ _ _ _
    refine To.ifB (ltI (m : Int) 1) (by kernel_rfl) (by kernel_rfl) (fun h0 => ?_) (fun h0 => ?_)
    · skip
      exact absurd (ltI_true h0) (by omega)
    · skip
      refine To.skip (by kernel_rfl) ?_
      show To Tryz.prog 30 [1, 1] _ _ _ _
      refine To.seq (by kernel_rfl) ?_
      refine To.region (by kernel_rfl) ?_
      refine Sg.go 1 (by kernel_rfl) ?_
      refine Sg.op (some 10) (by kernel_rfl) (jCall (by kernel_rfl) (stir_any y hy H n) (by kernel_rfl)) ?_
      refine Sg.go 1 (by kernel_rfl) ?_
      refine Sg.op (some 12) (by kernel_rfl) (jBin (b_mul .u32 i 2654435769 a (wrap32 _ (by omega))) (by kernel_rfl)) ?_
      refine Sg.op (some 13) (by kernel_rfl) (jBin (b_add .u32 (stirN y) a b (wrap32 _ (by omega))) (by kernel_rfl)) ?_
      refine Sg.op (some 14) (by kernel_rfl) (jCall (by kernel_rfl) (stir_any b h1 H n) (by kernel_rfl)) ?_
      refine Sg.op (some 15) (by kernel_rfl) (jConv (k := .i64) (x := (stirN b : Int)) (z := (stirN b : Int)) hw (by kernel_rfl)) ?_
      refine Sg.go 1 (by kernel_rfl) ?_
      refine Sg.op (some 17) (by kernel_rfl) (jBin (fun t => (b_rem .i64 (stirN b : Int) (m : Int) (by omega) t).trans (by rw [show ((stirN b : Int).tmod (m : Int)) = ((stirN b % m : Nat) : Int) from rfl])) (op := .rem) (a := vi (stirN b)) (b := vi m) (z := .int .i64 ((stirN b % m : Nat) : Int)) (by kernel_rfl)) ?_
      refine Sg.go 1 (by kernel_rfl) ?_
      refine Sg.done (by kernel_rfl) ?_
      show To Tryz.prog 30 [1, 1, 1] _ _ _ _
      refine To.ret (by kernel_rfl) ?_
      exact ⟨.inr rfl, _, by kernel_rfl, by rw [hs], rfl, rfl⟩
  obtain ⟨v, H', n', h1, rfl, rfl, rfl⟩ := h
  exact h1
end Go.Proofs.YtkimkgbppegkhaaGreat.Cm
