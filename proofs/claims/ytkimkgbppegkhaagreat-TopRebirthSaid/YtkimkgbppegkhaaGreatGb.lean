/- The clean machine's walks of solving (2): which is the first one. -/
import Derived.Test.YtkimkgbppegkhaaGreatGa
namespace Go.Proofs.YtkimkgbppegkhaaGreat.Cm
open Go Go.RowKit Go.Proofs.YtkimkgbppegkhaaGreat.Gf
theorem rowA_len {H : Heap} {sz : Nat} {f : F} {cs : List F} (h : rowA H sz f = some cs) : ∃ len, lenA f = some len ∧ cs.length = len * sz := by
  cases f with
  | sl0 => simp only [rowA, Option.some.injEq] at h; subst h; exact ⟨0, rfl, by simp⟩
  | sl id off sz' len cap => exact ⟨len, rfl, (rowA_at h).2.1⟩
  | _ => simp [rowA] at h
theorem rowA_len1 {H : Heap} {f : F} {cs : List F} (h : rowA H 1 f = some cs) : lenA f = some cs.length := by
  obtain ⟨len, h1, h2⟩ := rowA_len h
  rw [h1]; congr 1; omega
theorem rowA_sl {H : Heap} {f : F} {cs : List F} (h : rowA H 1 f = some cs) (h0 : 0 < cs.length) : ∃ id off cap, f = .sl id off 1 cs.length cap ∧ ∀ (i : Nat) x, cs[i]? = some x → atA H id (off + i) x := by
  cases f with
  | sl0 => simp only [rowA, Option.some.injEq] at h; subst h; simp at h0
  | sl id off sz' len cap =>
    obtain ⟨rfl, h1, _, h2⟩ := rowA_at h
    have : len = cs.length := by omega
    subst this
    exact ⟨id, off, cap, rfl, h2⟩
  | _ => simp [rowA] at h
theorem PureC.same {f : Nat} {args : List V} {X X' : Heap} {n n' : Nat} {v : V} (hc : CallsC Tryz.prog f args X n v X' n') (hm : Mono X X') (ht : Top X' n') : PureC f args X n fun u _ => u = v := ⟨_, _, _, hc, hm, ht, rfl⟩
/-- the first one of which something is so -/
def FirstIs (p : Nat → Bool) (len : Nat) (v : V) : Prop := (∃ i, i < len ∧ p i = true ∧ (∀ j, j < i → p j = false) ∧ v = vi i) ∨ ((∀ i, i < len → p i = false) ∧ v = vf (.int .i64 (-1)))

theorem index66 {X : Heap} {n : Nat} {f : F} {g : Nat} {caps cs : List F} (p : Nat → Bool) (hr : rowA X 1 f = some cs) (hlt : cs.length < 100000) (hgo : fnOk Tryz.prog g = true) (hg : ∀ (i : Nat) x, cs[i]? = some x → ∀ Y m, Mono X Y → Top Y m → PureC g ([vf x] ++ caps.map fun x => .u (.f x)) Y m fun v _ => v = vf (.bool (p i))) (ht : Top X n) : PureC 66 [vf (f), .u (.fn g caps)] X n fun v X' => FirstIs p cs.length v := by
  refine PureC.of_to (by kernel_rfl) ?_
  have s0 := Sep.ini ht
  have hm0 : Mono X X := Mono.rfl
  refine To.seq (by kernel_rfl) ?_
  refine To.region (by kernel_rfl) ?_
  refine Sg.go 1 (by kernel_rfl) ?_
  refine Sg.done (by kernel_rfl) ?_
  show To Tryz.prog 66 [1] _ _ _ _
  refine To.seq (by kernel_rfl) ?_
  refine To.seq (by kernel_rfl) ?_
  refine To.region (by kernel_rfl) ?_
  refine Sg.go 1 (by kernel_rfl) ?_
  refine Sg.op (some 7) (by kernel_rfl) (jLenV (l := cs.length) (rowA_len1 hr) (by kernel_rfl)) ?_
  refine Sg.go 1 (by kernel_rfl) ?_
  refine Sg.done (by kernel_rfl) ?_
  show To Tryz.prog 66 [1, 0, 1] _ _ _ _
  refine To.block 0 (by kernel_rfl) ?_
  refine To.loop (by kernel_rfl) ?_
  refine ToL.for (cs.length) (fun i A H n => ∃ (Y : Heap), AtL A [(0, vf (f)), (1, .u (.fn g caps)), (7, vf (.int .i64 ((cs.length : Nat) : Int))), (8, vf (.int .i64 ((i : Nat) : Int)))] ∧ Sep Y H n [] ∧ Mono X Y ∧ rowA Y 1 f = some cs ∧ ∀ j, j < i → p j = false) ⟨X, getsL_spec (ts := [0, 1, 7, 8]) (by kernel_rfl), s0, hm0, hr, fun j hj => by omega⟩ (fun i A H n hi hI => ?_) (fun A H n hI => ?_)
  · skip
    obtain ⟨Y, hT, s1, hm0, hr, hn⟩ := hI
    refine To.keep _ ?_ hT.sub
    have hx : cs[i]? = some cs[i] := List.getElem?_eq_getElem hi
    obtain ⟨id, off, cap, rfl, hat⟩ := rowA_sl hr (by omega)
    refine To.seq (by kernel_rfl) ?_
    refine To.region (by kernel_rfl) ?_
    refine Sg.op (some 9) (by kernel_rfl) (jBin (b_lssT .i64 (x := ((i : Nat) : Int)) (y := ((cs.length : Nat) : Int)) (by omega)) (by kernel_rfl)) ?_
    refine Sg.done (by kernel_rfl) ?_
    show To Tryz.prog 66 [1, 0, 0, 1, 0, 1] _ _ _ _
    cases hp : p i
    · skip
      refine To.seq (by kernel_rfl) ?_
      refine To.ifT (by kernel_rfl) (by kernel_rfl) ?_
      refine To.skip (by kernel_rfl) ?_
      show To Tryz.prog 66 [1, 1, 0, 0, 1, 0, 1] _ _ _ _
      refine To.seq (by kernel_rfl) ?_
      refine To.block 1 (by kernel_rfl) ?_
      refine To.seq (by kernel_rfl) ?_
      refine To.region (by kernel_rfl) ?_
      refine Sg.go 2 (by kernel_rfl) ?_
      refine Sg.done (by kernel_rfl) ?_
      show To Tryz.prog 66 [1, 0, 0, 1, 1, 0, 0, 1, 0, 1] _ _ _ _
      refine To.seq (by kernel_rfl) ?_
      refine To.region (by kernel_rfl) ?_
      refine Sg.go 3 (by kernel_rfl) ?_
      refine Sg.op (some 14) (by kernel_rfl) (jIdx (id := id) (off := off) (sz := 1) (len := cs.length) (k := i) (by omega) (by kernel_rfl)) ?_
      refine Sg.op (some 15) (by kernel_rfl) (jLoadX (id := id) (off := off + i * 1) (x := cs[i]) (by rw [Nat.mul_one]; exact (hat i _ hx).mono (s1.mono _)) (by kernel_rfl)) ?_
      obtain ⟨_, X2, n3, hc4, hm5, ht6, rfl⟩ := (((hg i _ hx _ _ hm0 s1.topX).imp fun v X' h => (h.trans (by rw [hp]) : v = vf (.bool false))) : PureC g ([vf (cs[i])] ++ caps.map fun x => .u (.f x)) Y (n) _)
      obtain ⟨H7, hc8, s9⟩ := s1.call hc4 hm5 ht6
      have hm0 := hm0.tr hm5
      have hr := rowA_mono hm5 hr
      refine Sg.op (some 16) (by kernel_rfl) (jCall hgo hc8 (by kernel_rfl)) ?_
      refine Sg.done (by kernel_rfl) ?_
      show To Tryz.prog 66 [1, 1, 0, 0, 1, 1, 0, 0, 1, 0, 1] _ _ _ _
      refine To.ifF (by kernel_rfl) (by kernel_rfl) ?_
      refine To.skip (by kernel_rfl) ?_
      show To Tryz.prog 66 [1, 1, 1, 0, 0, 1, 0, 1] _ _ _ _
      refine To.region (by kernel_rfl) ?_
      refine Sg.op (some 18) (by kernel_rfl) (jBin (b_addN (i) (1) (by omega)) (by kernel_rfl)) ?_
      refine Sg.go 1 (by kernel_rfl) ?_
      refine Sg.done (by kernel_rfl) ?_
      exact .inl ⟨rfl, X2, getsL_spec (ts := [0, 1, 7, 8]) (by kernel_rfl), s9, hm0, hr, fun j hj => by rcases Nat.lt_or_ge j i with h | h; exact hn j h; rw [show j = i by omega]; exact hp⟩
    · skip
      refine To.seq (by kernel_rfl) ?_
      refine To.ifT (by kernel_rfl) (by kernel_rfl) ?_
      refine To.skip (by kernel_rfl) ?_
      show To Tryz.prog 66 [1, 1, 0, 0, 1, 0, 1] _ _ _ _
      refine To.seq (by kernel_rfl) ?_
      refine To.block 1 (by kernel_rfl) ?_
      refine To.seq (by kernel_rfl) ?_
      refine To.region (by kernel_rfl) ?_
      refine Sg.go 2 (by kernel_rfl) ?_
      refine Sg.done (by kernel_rfl) ?_
      show To Tryz.prog 66 [1, 0, 0, 1, 1, 0, 0, 1, 0, 1] _ _ _ _
      refine To.seq (by kernel_rfl) ?_
      refine To.region (by kernel_rfl) ?_
      refine Sg.go 3 (by kernel_rfl) ?_
      refine Sg.op (some 14) (by kernel_rfl) (jIdx (id := id) (off := off) (sz := 1) (len := cs.length) (k := i) (by omega) (by kernel_rfl)) ?_
      refine Sg.op (some 15) (by kernel_rfl) (jLoadX (id := id) (off := off + i * 1) (x := cs[i]) (by rw [Nat.mul_one]; exact (hat i _ hx).mono (s1.mono _)) (by kernel_rfl)) ?_
      obtain ⟨_, X10, n11, hc12, hm13, ht14, rfl⟩ := (((hg i _ hx _ _ hm0 s1.topX).imp fun v X' h => (h.trans (by rw [hp]) : v = vf (.bool true))) : PureC g ([vf (cs[i])] ++ caps.map fun x => .u (.f x)) Y (n) _)
      obtain ⟨H15, hc16, s17⟩ := s1.call hc12 hm13 ht14
      have hm0 := hm0.tr hm13
      have hr := rowA_mono hm13 hr
      refine Sg.op (some 16) (by kernel_rfl) (jCall hgo hc16 (by kernel_rfl)) ?_
      refine Sg.done (by kernel_rfl) ?_
      show To Tryz.prog 66 [1, 1, 0, 0, 1, 1, 0, 0, 1, 0, 1] _ _ _ _
      refine To.ifT (by kernel_rfl) (by kernel_rfl) ?_
      refine To.seq (by kernel_rfl) ?_
      refine To.region (by kernel_rfl) ?_
      refine Sg.go 2 (by kernel_rfl) ?_
      refine Sg.done (by kernel_rfl) ?_
      show To Tryz.prog 66 [1, 0, 1, 1, 0, 0, 1, 1, 0, 0, 1, 0, 1] _ _ _ _
      refine To.ret (by kernel_rfl) ?_
      refine .inr ⟨by simp, ?_⟩
      exact ⟨.inr rfl, _, by kernel_rfl, X10, _, s17, hm0, .inl ⟨i, hi, hp, hn, rfl⟩⟩
  · skip
    obtain ⟨Y, hT, s18, hm0, hr, hn⟩ := hI
    refine To.keep _ ?_ hT.sub
    refine To.seq (by kernel_rfl) ?_
    refine To.region (by kernel_rfl) ?_
    refine Sg.op (some 9) (by kernel_rfl) (jBin (b_lssF .i64 (x := (((cs.length) : Nat) : Int)) (y := ((cs.length : Nat) : Int)) (by simp)) (by kernel_rfl)) ?_
    refine Sg.done (by kernel_rfl) ?_
    show To Tryz.prog 66 [1, 0, 0, 1, 0, 1] _ _ _ _
    refine To.seq (by kernel_rfl) ?_
    refine To.ifF (by kernel_rfl) (by kernel_rfl) ?_
    refine To.exit 0 (by kernel_rfl) ?_
    refine ⟨by simp, ?_⟩
    show To Tryz.prog 66 [1, 1] _ _ _ _
    refine To.seq (by kernel_rfl) ?_
    refine To.region (by kernel_rfl) ?_
    refine Sg.go 1 (by kernel_rfl) ?_
    refine Sg.done (by kernel_rfl) ?_
    show To Tryz.prog 66 [1, 1, 1] _ _ _ _
    refine To.ret (by kernel_rfl) ?_
    exact ⟨.inr rfl, _, by kernel_rfl, Y, _, s18, hm0, .inr ⟨hn, rfl⟩⟩
theorem index144 {X : Heap} {n : Nat} {f : F} {g : Nat} {caps cs : List F} (p : Nat → Bool) (hr : rowA X 1 f = some cs) (hlt : cs.length < 100000) (hgo : fnOk Tryz.prog g = true) (hg : ∀ (i : Nat) x, cs[i]? = some x → ∀ Y m, Mono X Y → Top Y m → PureC g ([vf x] ++ caps.map fun x => .u (.f x)) Y m fun v _ => v = vf (.bool (p i))) (ht : Top X n) : PureC 144 [vf (f), .u (.fn g caps)] X n fun v X' => FirstIs p cs.length v := by
  refine PureC.of_to (by kernel_rfl) ?_
  have s0 := Sep.ini ht
  have hm0 : Mono X X := Mono.rfl
  refine To.seq (by kernel_rfl) ?_
  refine To.region (by kernel_rfl) ?_
  refine Sg.go 1 (by kernel_rfl) ?_
  refine Sg.done (by kernel_rfl) ?_
  show To Tryz.prog 144 [1] _ _ _ _
  refine To.seq (by kernel_rfl) ?_
  refine To.seq (by kernel_rfl) ?_
  refine To.region (by kernel_rfl) ?_
  refine Sg.go 1 (by kernel_rfl) ?_
  refine Sg.op (some 7) (by kernel_rfl) (jLenV (l := cs.length) (rowA_len1 hr) (by kernel_rfl)) ?_
  refine Sg.go 1 (by kernel_rfl) ?_
  refine Sg.done (by kernel_rfl) ?_
  show To Tryz.prog 144 [1, 0, 1] _ _ _ _
  refine To.block 0 (by kernel_rfl) ?_
  refine To.loop (by kernel_rfl) ?_
  refine ToL.for (cs.length) (fun i A H n => ∃ (Y : Heap), AtL A [(0, vf (f)), (1, .u (.fn g caps)), (7, vf (.int .i64 ((cs.length : Nat) : Int))), (8, vf (.int .i64 ((i : Nat) : Int)))] ∧ Sep Y H n [] ∧ Mono X Y ∧ rowA Y 1 f = some cs ∧ ∀ j, j < i → p j = false) ⟨X, getsL_spec (ts := [0, 1, 7, 8]) (by kernel_rfl), s0, hm0, hr, fun j hj => by omega⟩ (fun i A H n hi hI => ?_) (fun A H n hI => ?_)
  · skip
    obtain ⟨Y, hT, s19, hm0, hr, hn⟩ := hI
    refine To.keep _ ?_ hT.sub
    have hx : cs[i]? = some cs[i] := List.getElem?_eq_getElem hi
    obtain ⟨id, off, cap, rfl, hat⟩ := rowA_sl hr (by omega)
    refine To.seq (by kernel_rfl) ?_
    refine To.region (by kernel_rfl) ?_
    refine Sg.op (some 9) (by kernel_rfl) (jBin (b_lssT .i64 (x := ((i : Nat) : Int)) (y := ((cs.length : Nat) : Int)) (by omega)) (by kernel_rfl)) ?_
    refine Sg.done (by kernel_rfl) ?_
    show To Tryz.prog 144 [1, 0, 0, 1, 0, 1] _ _ _ _
    cases hp : p i
    · skip
      refine To.seq (by kernel_rfl) ?_
      refine To.ifT (by kernel_rfl) (by kernel_rfl) ?_
      refine To.skip (by kernel_rfl) ?_
      show To Tryz.prog 144 [1, 1, 0, 0, 1, 0, 1] _ _ _ _
      refine To.seq (by kernel_rfl) ?_
      refine To.block 1 (by kernel_rfl) ?_
      refine To.seq (by kernel_rfl) ?_
      refine To.region (by kernel_rfl) ?_
      refine Sg.go 2 (by kernel_rfl) ?_
      refine Sg.done (by kernel_rfl) ?_
      show To Tryz.prog 144 [1, 0, 0, 1, 1, 0, 0, 1, 0, 1] _ _ _ _
      refine To.seq (by kernel_rfl) ?_
      refine To.region (by kernel_rfl) ?_
      refine Sg.go 3 (by kernel_rfl) ?_
      refine Sg.op (some 14) (by kernel_rfl) (jIdx (id := id) (off := off) (sz := 1) (len := cs.length) (k := i) (by omega) (by kernel_rfl)) ?_
      refine Sg.op (some 15) (by kernel_rfl) (jLoadX (id := id) (off := off + i * 1) (x := cs[i]) (by rw [Nat.mul_one]; exact (hat i _ hx).mono (s19.mono _)) (by kernel_rfl)) ?_
      obtain ⟨_, X20, n21, hc22, hm23, ht24, rfl⟩ := (((hg i _ hx _ _ hm0 s19.topX).imp fun v X' h => (h.trans (by rw [hp]) : v = vf (.bool false))) : PureC g ([vf (cs[i])] ++ caps.map fun x => .u (.f x)) Y (n) _)
      obtain ⟨H25, hc26, s27⟩ := s19.call hc22 hm23 ht24
      have hm0 := hm0.tr hm23
      have hr := rowA_mono hm23 hr
      refine Sg.op (some 16) (by kernel_rfl) (jCall hgo hc26 (by kernel_rfl)) ?_
      refine Sg.done (by kernel_rfl) ?_
      show To Tryz.prog 144 [1, 1, 0, 0, 1, 1, 0, 0, 1, 0, 1] _ _ _ _
      refine To.ifF (by kernel_rfl) (by kernel_rfl) ?_
      refine To.skip (by kernel_rfl) ?_
      show To Tryz.prog 144 [1, 1, 1, 0, 0, 1, 0, 1] _ _ _ _
      refine To.region (by kernel_rfl) ?_
      refine Sg.op (some 18) (by kernel_rfl) (jBin (b_addN (i) (1) (by omega)) (by kernel_rfl)) ?_
      refine Sg.go 1 (by kernel_rfl) ?_
      refine Sg.done (by kernel_rfl) ?_
      exact .inl ⟨rfl, X20, getsL_spec (ts := [0, 1, 7, 8]) (by kernel_rfl), s27, hm0, hr, fun j hj => by rcases Nat.lt_or_ge j i with h | h; exact hn j h; rw [show j = i by omega]; exact hp⟩
    · skip
      refine To.seq (by kernel_rfl) ?_
      refine To.ifT (by kernel_rfl) (by kernel_rfl) ?_
      refine To.skip (by kernel_rfl) ?_
      show To Tryz.prog 144 [1, 1, 0, 0, 1, 0, 1] _ _ _ _
      refine To.seq (by kernel_rfl) ?_
      refine To.block 1 (by kernel_rfl) ?_
      refine To.seq (by kernel_rfl) ?_
      refine To.region (by kernel_rfl) ?_
      refine Sg.go 2 (by kernel_rfl) ?_
      refine Sg.done (by kernel_rfl) ?_
      show To Tryz.prog 144 [1, 0, 0, 1, 1, 0, 0, 1, 0, 1] _ _ _ _
      refine To.seq (by kernel_rfl) ?_
      refine To.region (by kernel_rfl) ?_
      refine Sg.go 3 (by kernel_rfl) ?_
      refine Sg.op (some 14) (by kernel_rfl) (jIdx (id := id) (off := off) (sz := 1) (len := cs.length) (k := i) (by omega) (by kernel_rfl)) ?_
      refine Sg.op (some 15) (by kernel_rfl) (jLoadX (id := id) (off := off + i * 1) (x := cs[i]) (by rw [Nat.mul_one]; exact (hat i _ hx).mono (s19.mono _)) (by kernel_rfl)) ?_
      obtain ⟨_, X28, n29, hc30, hm31, ht32, rfl⟩ := (((hg i _ hx _ _ hm0 s19.topX).imp fun v X' h => (h.trans (by rw [hp]) : v = vf (.bool true))) : PureC g ([vf (cs[i])] ++ caps.map fun x => .u (.f x)) Y (n) _)
      obtain ⟨H33, hc34, s35⟩ := s19.call hc30 hm31 ht32
      have hm0 := hm0.tr hm31
      have hr := rowA_mono hm31 hr
      refine Sg.op (some 16) (by kernel_rfl) (jCall hgo hc34 (by kernel_rfl)) ?_
      refine Sg.done (by kernel_rfl) ?_
      show To Tryz.prog 144 [1, 1, 0, 0, 1, 1, 0, 0, 1, 0, 1] _ _ _ _
      refine To.ifT (by kernel_rfl) (by kernel_rfl) ?_
      refine To.seq (by kernel_rfl) ?_
      refine To.region (by kernel_rfl) ?_
      refine Sg.go 2 (by kernel_rfl) ?_
      refine Sg.done (by kernel_rfl) ?_
      show To Tryz.prog 144 [1, 0, 1, 1, 0, 0, 1, 1, 0, 0, 1, 0, 1] _ _ _ _
      refine To.ret (by kernel_rfl) ?_
      refine .inr ⟨by simp, ?_⟩
      exact ⟨.inr rfl, _, by kernel_rfl, X28, _, s35, hm0, .inl ⟨i, hi, hp, hn, rfl⟩⟩
  · skip
    obtain ⟨Y, hT, s36, hm0, hr, hn⟩ := hI
    refine To.keep _ ?_ hT.sub
    refine To.seq (by kernel_rfl) ?_
    refine To.region (by kernel_rfl) ?_
    refine Sg.op (some 9) (by kernel_rfl) (jBin (b_lssF .i64 (x := (((cs.length) : Nat) : Int)) (y := ((cs.length : Nat) : Int)) (by simp)) (by kernel_rfl)) ?_
    refine Sg.done (by kernel_rfl) ?_
    show To Tryz.prog 144 [1, 0, 0, 1, 0, 1] _ _ _ _
    refine To.seq (by kernel_rfl) ?_
    refine To.ifF (by kernel_rfl) (by kernel_rfl) ?_
    refine To.exit 0 (by kernel_rfl) ?_
    refine ⟨by simp, ?_⟩
    show To Tryz.prog 144 [1, 1] _ _ _ _
    refine To.seq (by kernel_rfl) ?_
    refine To.region (by kernel_rfl) ?_
    refine Sg.go 1 (by kernel_rfl) ?_
    refine Sg.done (by kernel_rfl) ?_
    show To Tryz.prog 144 [1, 1, 1] _ _ _ _
    refine To.ret (by kernel_rfl) ?_
    exact ⟨.inr rfl, _, by kernel_rfl, Y, _, s36, hm0, .inr ⟨hn, rfl⟩⟩
theorem contains43 {X : Heap} {n : Nat} {f : F} {g : Nat} {caps cs : List F} (p : Nat → Bool) (hr : rowA X 1 f = some cs) (hlt : cs.length < 100000) (hgo : fnOk Tryz.prog g = true) (hg : ∀ (i : Nat) x, cs[i]? = some x → ∀ Y m, Mono X Y → Top Y m → PureC g ([vf x] ++ caps.map fun x => .u (.f x)) Y m fun v _ => v = vf (.bool (p i))) (ht : Top X n) : PureC 43 [vf (f), .u (.fn g caps)] X n fun v X' => (v = vf (.bool true) ∧ ∃ i, i < cs.length ∧ p i = true) ∨ (v = vf (.bool false) ∧ ∀ i, i < cs.length → p i = false) := by
  refine PureC.of_to (by kernel_rfl) ?_
  have s0 := Sep.ini ht
  have hm0 : Mono X X := Mono.rfl
  obtain ⟨v, X2, n2, hc, hm, ht2, hfi⟩ := (index66 p hr hlt hgo hg s0.topX : PureC _ _ _ _ _)
  rcases hfi with ⟨i, hi, hp, hn, rfl⟩ | ⟨hn, rfl⟩
  · skip
    refine To.seq (by kernel_rfl) ?_
    refine To.region (by kernel_rfl) ?_
    refine Sg.go 1 (by kernel_rfl) ?_
    refine Sg.done (by kernel_rfl) ?_
    show To Tryz.prog 43 [1] _ _ _ _
    refine To.seq (by kernel_rfl) ?_
    refine To.region (by kernel_rfl) ?_
    refine Sg.go 2 (by kernel_rfl) ?_
    obtain ⟨_, X37, n38, hc39, hm40, ht41, rfl⟩ := (PureC.same hc hm ht2 : PureC 66 [vf (f), .u (.fn g caps)] X (n) _)
    obtain ⟨H42, hc43, s44⟩ := s0.call hc39 hm40 ht41
    have hm0 := hm0.tr hm40
    refine Sg.op (some 7) (by kernel_rfl) (jCall (by kernel_rfl) hc43 (by kernel_rfl)) ?_
    refine Sg.op (some 8) (by kernel_rfl) (jBin (b_geqT .i64 (x := ((i : Nat) : Int)) (y := (0 : Int)) (by omega)) (by kernel_rfl)) ?_
    refine Sg.go 1 (by kernel_rfl) ?_
    refine Sg.done (by kernel_rfl) ?_
    show To Tryz.prog 43 [1, 1] _ _ _ _
    refine To.ret (by kernel_rfl) ?_
    exact ⟨.inr rfl, _, by kernel_rfl, X37, _, s44, hm0, .inl ⟨rfl, i, hi, hp⟩⟩
  · skip
    refine To.seq (by kernel_rfl) ?_
    refine To.region (by kernel_rfl) ?_
    refine Sg.go 1 (by kernel_rfl) ?_
    refine Sg.done (by kernel_rfl) ?_
    show To Tryz.prog 43 [1] _ _ _ _
    refine To.seq (by kernel_rfl) ?_
    refine To.region (by kernel_rfl) ?_
    refine Sg.go 2 (by kernel_rfl) ?_
    obtain ⟨_, X45, n46, hc47, hm48, ht49, rfl⟩ := (PureC.same hc hm ht2 : PureC 66 [vf (f), .u (.fn g caps)] X (n) _)
    obtain ⟨H50, hc51, s52⟩ := s0.call hc47 hm48 ht49
    have hm0 := hm0.tr hm48
    refine Sg.op (some 7) (by kernel_rfl) (jCall (by kernel_rfl) hc51 (by kernel_rfl)) ?_
    refine Sg.op (some 8) (by kernel_rfl) (jBin (b_geqF .i64 (x := (-1 : Int)) (y := (0 : Int)) (by omega)) (by kernel_rfl)) ?_
    refine Sg.go 1 (by kernel_rfl) ?_
    refine Sg.done (by kernel_rfl) ?_
    show To Tryz.prog 43 [1, 1] _ _ _ _
    refine To.ret (by kernel_rfl) ?_
    exact ⟨.inr rfl, _, by kernel_rfl, X45, _, s52, hm0, .inr ⟨rfl, hn⟩⟩
theorem contains99 {X : Heap} {n : Nat} {f : F} {g : Nat} {caps cs : List F} (p : Nat → Bool) (hr : rowA X 1 f = some cs) (hlt : cs.length < 100000) (hgo : fnOk Tryz.prog g = true) (hg : ∀ (i : Nat) x, cs[i]? = some x → ∀ Y m, Mono X Y → Top Y m → PureC g ([vf x] ++ caps.map fun x => .u (.f x)) Y m fun v _ => v = vf (.bool (p i))) (ht : Top X n) : PureC 99 [vf (f), .u (.fn g caps)] X n fun v X' => (v = vf (.bool true) ∧ ∃ i, i < cs.length ∧ p i = true) ∨ (v = vf (.bool false) ∧ ∀ i, i < cs.length → p i = false) := by
  refine PureC.of_to (by kernel_rfl) ?_
  have s0 := Sep.ini ht
  have hm0 : Mono X X := Mono.rfl
  obtain ⟨v, X2, n2, hc, hm, ht2, hfi⟩ := (index144 p hr hlt hgo hg s0.topX : PureC _ _ _ _ _)
  rcases hfi with ⟨i, hi, hp, hn, rfl⟩ | ⟨hn, rfl⟩
  · skip
    refine To.seq (by kernel_rfl) ?_
    refine To.region (by kernel_rfl) ?_
    refine Sg.go 1 (by kernel_rfl) ?_
    refine Sg.done (by kernel_rfl) ?_
    show To Tryz.prog 99 [1] _ _ _ _
    refine To.seq (by kernel_rfl) ?_
    refine To.region (by kernel_rfl) ?_
    refine Sg.go 2 (by kernel_rfl) ?_
    obtain ⟨_, X53, n54, hc55, hm56, ht57, rfl⟩ := (PureC.same hc hm ht2 : PureC 144 [vf (f), .u (.fn g caps)] X (n) _)
    obtain ⟨H58, hc59, s60⟩ := s0.call hc55 hm56 ht57
    have hm0 := hm0.tr hm56
    refine Sg.op (some 7) (by kernel_rfl) (jCall (by kernel_rfl) hc59 (by kernel_rfl)) ?_
    refine Sg.op (some 8) (by kernel_rfl) (jBin (b_geqT .i64 (x := ((i : Nat) : Int)) (y := (0 : Int)) (by omega)) (by kernel_rfl)) ?_
    refine Sg.go 1 (by kernel_rfl) ?_
    refine Sg.done (by kernel_rfl) ?_
    show To Tryz.prog 99 [1, 1] _ _ _ _
    refine To.ret (by kernel_rfl) ?_
    exact ⟨.inr rfl, _, by kernel_rfl, X53, _, s60, hm0, .inl ⟨rfl, i, hi, hp⟩⟩
  · skip
    refine To.seq (by kernel_rfl) ?_
    refine To.region (by kernel_rfl) ?_
    refine Sg.go 1 (by kernel_rfl) ?_
    refine Sg.done (by kernel_rfl) ?_
    show To Tryz.prog 99 [1] _ _ _ _
    refine To.seq (by kernel_rfl) ?_
    refine To.region (by kernel_rfl) ?_
    refine Sg.go 2 (by kernel_rfl) ?_
    obtain ⟨_, X61, n62, hc63, hm64, ht65, rfl⟩ := (PureC.same hc hm ht2 : PureC 144 [vf (f), .u (.fn g caps)] X (n) _)
    obtain ⟨H66, hc67, s68⟩ := s0.call hc63 hm64 ht65
    have hm0 := hm0.tr hm64
    refine Sg.op (some 7) (by kernel_rfl) (jCall (by kernel_rfl) hc67 (by kernel_rfl)) ?_
    refine Sg.op (some 8) (by kernel_rfl) (jBin (b_geqF .i64 (x := (-1 : Int)) (y := (0 : Int)) (by omega)) (by kernel_rfl)) ?_
    refine Sg.go 1 (by kernel_rfl) ?_
    refine Sg.done (by kernel_rfl) ?_
    show To Tryz.prog 99 [1, 1] _ _ _ _
    refine To.ret (by kernel_rfl) ?_
    exact ⟨.inr rfl, _, by kernel_rfl, X61, _, s68, hm0, .inr ⟨rfl, hn⟩⟩
end Go.Proofs.YtkimkgbppegkhaaGreat.Cm
