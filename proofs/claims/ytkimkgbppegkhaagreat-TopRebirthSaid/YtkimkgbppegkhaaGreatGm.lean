/- The clean machine's walks of objects: their symbols, as records. -/
import Derived.Test.YtkimkgbppegkhaaGreatGl
namespace Go.Proofs.YtkimkgbppegkhaaGreat.Cm
open Go Go.RowKit Go.Proofs.YtkimkgbppegkhaaGreat.Gf
set_option maxRecDepth 1000000
/-- things of several cells, one behind the other -/
def Cat {α : Type} (R : α → List F → Prop) (sz : Nat) : List α → List F → Prop
  | [], fs => fs = []
  | a :: l, fs => ∃ c r, fs = c ++ r ∧ c.length = sz ∧ R a c ∧ Cat R sz l r
section
variable {α : Type} {R S : α → List F → Prop} {sz : Nat}
theorem Cat.mono (h : ∀ a c, R a c → S a c) : ∀ {l : List α} {fs : List F}, Cat R sz l fs → Cat S sz l fs
  | [], _, H => H
  | a :: l, fs, H => by
    obtain ⟨c, r, h1, h2, h3, h4⟩ := H
    exact ⟨c, r, h1, h2, h _ _ h3, Cat.mono h h4⟩
theorem Cat.len : ∀ {l : List α} {fs : List F}, Cat R sz l fs → fs.length = l.length * sz
  | [], fs, H => by have H : fs = [] := H; subst H; simp
  | a :: l, fs, H => by
    obtain ⟨c, r, rfl, h2, h3, h4⟩ := H
    rw [List.length_append, h2, h4.len, List.length_cons, Nat.add_mul]
    omega
theorem Cat.append : ∀ {l k : List α} {fs gs : List F}, Cat R sz l fs → Cat R sz k gs → Cat R sz (l ++ k) (fs ++ gs)
  | [], k, fs, gs, H, K => by have H : fs = [] := H; subst H; exact K
  | a :: l, k, fs, gs, H, K => by
    obtain ⟨c, r, rfl, h2, h3, h4⟩ := H
    exact ⟨c, r ++ gs, by rw [List.append_assoc], h2, h3, h4.append K⟩
theorem Cat.one {a : α} {c : List F} (h : R a c) (hc : c.length = sz) : Cat R sz [a] c := ⟨c, [], by simp, hc, h, rfl⟩
theorem Cat.snoc {l : List α} {fs c : List F} {a : α} (H : Cat R sz l fs) (h : R a c) (hc : c.length = sz) : Cat R sz (l ++ [a]) (fs ++ c) := H.append (Cat.one h hc)
theorem Cat.at : ∀ {l : List α} {fs : List F} {i : Nat} {a : α}, Cat R sz l fs → l[i]? = some a → ∃ c, (fs.drop (i * sz)).take sz = c ∧ c.length = sz ∧ R a c
  | [], _, i, a, _, h => by simp at h
  | b :: l, fs, 0, a, H, h => by
    obtain ⟨c, r, rfl, h2, h3, h4⟩ := H
    simp at h
    subst h
    exact ⟨c, by rw [Nat.zero_mul, List.drop_zero, List.take_append_of_le_length (by omega), List.take_of_length_le (by omega)], h2, h3⟩
  | b :: l, fs, i + 1, a, H, h => by
    obtain ⟨c, r, rfl, h2, h3, h4⟩ := H
    obtain ⟨c', g1, g2, g3⟩ := h4.at (i := i) (a := a) (by simpa using h)
    refine ⟨c', ?_, g2, g3⟩
    rw [Nat.add_mul, Nat.one_mul, Nat.add_comm, ← h2, List.drop_append, List.drop_of_length_le (by omega), List.nil_append, show c.length + i * c.length - c.length = i * c.length by omega, h2]
    exact g1
theorem Cat.set : ∀ {l : List α} {fs c : List F} {i : Nat} {a : α}, Cat R sz l fs → i < l.length → R a c → c.length = sz → Cat R sz (l.set i a) (splice fs (i * sz) c)
  | [], _, _, i, a, _, h, _, _ => by simp at h
  | b :: l, fs, c, 0, a, H, h, hr, hc => by
    obtain ⟨d, r, rfl, h2, h3, h4⟩ := H
    refine ⟨c, r, ?_, hc, hr, h4⟩
    unfold splice
    rw [Nat.zero_mul, List.take_zero, List.nil_append, Nat.zero_add, hc, ← h2, List.drop_append, List.drop_of_length_le (Nat.le_refl _)]
    simp
  | b :: l, fs, c, i + 1, a, H, h, hr, hc => by
    obtain ⟨d, r, rfl, h2, h3, h4⟩ := H
    refine ⟨d, splice r (i * sz) c, ?_, h2, h3, h4.set (i := i) (by simpa using h) hr hc⟩
    unfold splice
    have e : (i + 1) * sz = d.length + i * sz := by rw [Nat.add_mul, h2]; omega
    rw [e, List.take_append, List.take_of_length_le (by omega), show d.length + i * sz - d.length = i * sz by omega, List.drop_append, List.drop_of_length_le (by omega), show d.length + i * sz + c.length - d.length = i * sz + c.length by omega]
    simp
end
/-- a slice of such things, in cells -/
def SlV {α : Type} (R : Heap → α → List F → Prop) (sz : Nat) (X : Heap) (f : F) (l : List α) : Prop := (f = .sl0 ∧ l = []) ∨ ∃ id off cap all ex, f = .sl id off sz l.length cap ∧ X id = some (.cells all ex) ∧ off + l.length * sz ≤ all.length ∧ Cat (R X) sz l ((all.drop off).take (l.length * sz))
theorem SlV.mono {α : Type} {R : Heap → α → List F → Prop} {sz : Nat} (hR : ∀ X Y a c, Mono X Y → R X a c → R Y a c) {X Y : Heap} (hm : Mono X Y) {f : F} {l : List α} (h : SlV R sz X f l) : SlV R sz Y f l := by
  rcases h with h | ⟨id, off, cap, all, ex, h1, h2, h3, h4⟩
  · exact .inl h
  · exact .inr ⟨id, off, cap, all, ex, h1, hm _ _ h2, h3, h4.mono fun a c h => hR _ _ _ _ hm h⟩
theorem SlV.lenA {α : Type} {R : Heap → α → List F → Prop} {sz : Nat} {X : Heap} {f : F} {l : List α} (h : SlV R sz X f l) : Cm.lenA f = some l.length := by
  rcases h with ⟨rfl, rfl⟩ | ⟨id, off, cap, all, ex, rfl, _⟩ <;> rfl
theorem SlV.row {α : Type} {R : Heap → α → List F → Prop} {sz : Nat} {X : Heap} {f : F} {l : List α} (h : SlV R sz X f l) : ∃ fs, rowA X sz f = some fs ∧ Cat (R X) sz l fs := by
  rcases h with ⟨rfl, rfl⟩ | ⟨id, off, cap, all, ex, rfl, h2, h3, h4⟩
  · exact ⟨[], rfl, rfl⟩
  · exact ⟨_, by simp only [rowA, if_true, h2]; rw [if_pos h3], h4⟩
theorem SlV.at {α : Type} {R : Heap → α → List F → Prop} {sz : Nat} {X : Heap} {f : F} {l : List α} (h : SlV R sz X f l) {i : Nat} {a : α} (hi : l[i]? = some a) :
    ∃ id off cap all ex c, f = .sl id off sz l.length cap ∧ X id = some (.cells all ex) ∧ off + i * sz + sz ≤ all.length ∧ (all.drop (off + i * sz)).take sz = c ∧ R X a c := by
  rcases h with ⟨rfl, rfl⟩ | ⟨id, off, cap, all, ex, rfl, h2, h3, h4⟩
  · simp at hi
  · obtain ⟨c, g1, g2, g3⟩ := h4.at hi
    have hil : i < l.length := by
      rcases Nat.lt_or_ge i l.length with g | g
      · exact g
      · rw [List.getElem?_eq_none g] at hi; cases hi
    have hle : (i + 1) * sz ≤ l.length * sz := Nat.mul_le_mul_right _ hil
    rw [Nat.add_mul, Nat.one_mul] at hle
    refine ⟨id, off, cap, all, ex, c, rfl, h2, by omega, ?_, g3⟩
    rw [← g1, List.drop_take, List.take_take, List.drop_drop, Nat.min_eq_left (by omega)]
theorem SlV.of_acc {α : Type} {R : Heap → α → List F → Prop} {sz : Nat} {X : Heap} {a : F} {fs : List F} {l : List α} (ha : AccF sz a fs) (hsz : 0 < sz) (hX : ∀ k o z len c, a = .sl k o z len c → X k = some (.cells fs false)) (h : Cat (R X) sz l fs) : SlV R sz X a l := by
  have hl := h.len
  rcases ha with ⟨rfl, rfl⟩ | ⟨k, len, rfl, h1⟩
  · left
    refine ⟨rfl, List.eq_nil_of_length_eq_zero ?_⟩
    have hl : 0 = l.length * sz := hl
    rcases Nat.mul_eq_zero.1 hl.symm with h | h
    · exact h
    · omega
  · right
    have : len = l.length := Nat.eq_of_mul_eq_mul_right hsz (by omega)
    subst this
    refine ⟨k, 0, none, fs, false, rfl, hX _ _ _ _ _ rfl, by omega, ?_⟩
    rw [List.drop_zero, List.take_of_length_le (by omega)]
    exact h
/-- a record: a symbol of a block of an object -/
structure Rc where
  b : Nat
  e : Nat
  d : List Nat
def RecV (B N M : Nat) (X : Heap) (r : Rc) (c : List F) : Prop := ∃ g, c = [.int .i64 1, .int .i64 1, .int .i64 ((B : Nat) : Int), .int .i64 ((N : Nat) : Int), .int .i64 ((M : Nat) : Int), .int .i64 ((r.b : Nat) : Int), .int .i64 ((r.e : Nat) : Int), .bool false, .int .i64 90, g] ∧ RowV X g r.d
theorem RecV.mono {B N M : Nat} (X Y : Heap) (r : Rc) (c : List F) (hm : Mono X Y) (h : RecV B N M X r c) : RecV B N M Y r c := by
  obtain ⟨g, h1, h2⟩ := h
  exact ⟨g, h1, h2.mono hm⟩
abbrev RecsV (B N M : Nat) := SlV (RecV B N M) 10
noncomputable def recB (N x i : Nat) (q : Nat × List (List Nat)) : List Rc := (List.range (q.1 + x)).map fun e => ⟨i, e, comb N (rowE q.1 e) q.2⟩
/-- the first symbols of the first blocks -/
noncomputable def recU (N x : Nat) (bl : List (Nat × List (List Nat))) : Nat → List Rc
  | 0 => []
  | i + 1 => recU N x bl i ++ recB N x i ((bl[i]?).getD (0, []))
theorem BlS.mx {data : List Nat} {B N M i : Nat} {q : Nat × List (List Nat)} (hb : B8 data) (h : BlS data B N M i q) : Mx (lK q.1) N q.2 := by
  obtain ⟨h1, h2⟩ := h
  have := h2.mx (besK_mx (k := q.1) (es := List.range q.1) (by rw [List.length_range, h1]; exact blkR_mx hb _ _ _ _))
  exact ⟨this.1, this.2⟩

theorem All2.atR {α β : Type} {R : α → β → Prop} : ∀ {l : List α} {k : List β}, All2 R l k → ∀ {i : Nat} {b : β}, k[i]? = some b → ∃ a, l[i]? = some a ∧ R a b
  | a :: l, b :: k, H, 0, x, h => by simp at h; subst h; exact ⟨a, by simp, H.1⟩
  | a :: l, b :: k, H, i + 1, x, h => by simpa using All2.atR H.2 (i := i) (b := x) (by simpa using h)
  | [], [], _, i, x, h => by simp at h
  | [], _ :: _, H, _, _, _ => H.elim
  | _ :: _, [], H, _, _, _ => H.elim
theorem records_pure {X : Heap} {n : Nat} {o B N M x : Nat} (data : List Nat) (bl : List (Nat × List (List Nat))) (h : ShOk B N M) (hb8 : B8 data) (hx4 : x ≤ 4) (hO : ObjV X o B N M bl) (hbl : bl.length = blkS B N M) (hS : BlAll data B N M bl) (ht : Top X n) : PureC 9 [vf (.ptr (o) (0)), .u (.agg [.int .i64 1, .int .i64 1]), vf (.int .i64 ((x : Nat) : Int)), vf (.int .i64 90)] X n fun v X' => ∃ g, v = vf g ∧ RecsV B N M X' g (recU N x bl bl.length) := by
  refine PureC.of_to (by kernel_rfl) ?_
  have s0 := Sep.ini ht
  have hm0 : Mono X X := Mono.rfl
  obtain ⟨ao, fs0, hO, hr, hA⟩ := hO
  have hfl : fs0.length = bl.length := hA.length.symm
  have hbp := blk_pos h
  have hN0 := h.n1
  have hN20 := h.n2
  refine To.seq (by kernel_rfl) ?_
  refine To.region (by kernel_rfl) ?_
  obtain ⟨H1, s2, J3⟩ := jNewM s0 (.cells [.int .i64 1, .int .i64 1] true)
  refine Sg.op (some 5) (by kernel_rfl) (J3 _ _ (vf (.ptr (n) (0))) (by kernel_rfl)) ?_
  refine Sg.go 1 (by kernel_rfl) ?_
  refine Sg.done (by kernel_rfl) ?_
  show To Tryz.prog 9 [1] _ _ _ _
  refine To.seq (by kernel_rfl) ?_
  refine To.seq (by kernel_rfl) ?_
  refine To.region (by kernel_rfl) ?_
  refine Sg.go 2 (by kernel_rfl) ?_
  refine Sg.done (by kernel_rfl) ?_
  show To Tryz.prog 9 [1, 0, 1] _ _ _ _
  refine To.ifF (by kernel_rfl) (by kernel_rfl) ?_
  refine To.skip (by kernel_rfl) ?_
  show To Tryz.prog 9 [1, 1] _ _ _ _
  refine To.seq (by kernel_rfl) ?_
  refine To.region (by kernel_rfl) ?_
  refine Sg.go 1 (by kernel_rfl) ?_
  refine Sg.done (by kernel_rfl) ?_
  show To Tryz.prog 9 [1, 1, 1] _ _ _ _
  refine To.seq (by kernel_rfl) ?_
  refine To.seq (by kernel_rfl) ?_
  refine To.region (by kernel_rfl) ?_
  refine Sg.go 3 (by kernel_rfl) ?_
  refine Sg.op (some 20) (by kernel_rfl) (jLoad (off := 3) (x := ao) (s2.mono _ _ hO) (by kernel_rfl) (by kernel_rfl)) ?_
  refine Sg.op (some 21) (by kernel_rfl) (jLenV (l := fs0.length) (rowA_len1 hr) (by kernel_rfl)) ?_
  refine Sg.go 1 (by kernel_rfl) ?_
  refine Sg.done (by kernel_rfl) ?_
  show To Tryz.prog 9 [1, 0, 1, 1, 1] _ _ _ _
  refine To.block 0 (by kernel_rfl) ?_
  refine To.loop (by kernel_rfl) ?_
  refine ToL.for (fs0.length) (fun i A Hq nq => ∃ (Y : Heap) (a : F) (fs : List F), AtL A [(0, vf (.ptr (o) (0))), (2, vf (.int .i64 ((x : Nat) : Int))), (3, vf (.int .i64 90)), (5, vf (.ptr (n) (0))), (9, vf (a)), (20, vf (ao)), (21, vf (.int .i64 ((fs0.length : Nat) : Int))), (22, vf (.int .i64 ((i : Nat) : Int)))] ∧ Sep Y Hq nq ([(n, .cells [.int .i64 1, .int .i64 1] true)] ++ (accM (a) (fs) ++ [])) ∧ (Mono X Y) ∧ (Y o = some (.cells [.int .i64 ((B : Nat) : Int), .int .i64 ((N : Nat) : Int), .int .i64 ((M : Nat) : Int), ao] true)) ∧ (rowA Y 1 ao = some fs0) ∧ (All2 (BlkV N Y) fs0 bl) ∧ (AccF 10 a fs) ∧ (Cat (RecV B N M Y) 10 (recU N x bl i) fs) ∧ (fs.length ≤ i * 200)) ⟨X, .sl0, [], getsL_spec (ts := [0, 2, 3, 5, 9, 20, 21, 22]) (by kernel_rfl), s2, (hm0), (hO), (hr), (hA), (AccF.nil 10), (rfl), (by simp)⟩ (fun i A H4 n5 hi hI => ?_) (fun A H4 n5 hI => ?_)
  · skip
    obtain ⟨Y, a, fs, hT, s6, hm0, hO, hr, hA, ha, hc, hl⟩ := hI
    refine To.keep _ ?_ hT.sub
    obtain ⟨q, hbi⟩ : ∃ q, bl[i]? = some q := ⟨_, List.getElem?_eq_getElem (by omega)⟩
    obtain ⟨k, cs⟩ := q
    obtain ⟨f0, hx, bb, rfl, hBv⟩ := hA.atR hbi
    have hq2 := hS i _ hbi
    have hcs := hq2.mx hb8
    have hkb := (kS_all h).2.2 i (by omega)
    have hk : k = kS B N M i := hq2.1
    have h1 : 1 ≤ k := by omega
    have h8 : k ≤ 8 := by omega
    obtain ⟨lid, loff, lcap, rfl, hlat⟩ := rowA_sl hr (by omega)
    refine To.seq (by kernel_rfl) ?_
    refine To.region (by kernel_rfl) ?_
    refine Sg.op (some 23) (by kernel_rfl) (jBin (b_lssT .i64 (x := ((i : Nat) : Int)) (y := ((fs0.length : Nat) : Int)) (by omega)) (by kernel_rfl)) ?_
    refine Sg.done (by kernel_rfl) ?_
    show To Tryz.prog 9 [1, 0, 0, 1, 0, 1, 1, 1] _ _ _ _
    refine To.seq (by kernel_rfl) ?_
    refine To.ifT (by kernel_rfl) (by kernel_rfl) ?_
    refine To.skip (by kernel_rfl) ?_
    show To Tryz.prog 9 [1, 1, 0, 0, 1, 0, 1, 1, 1] _ _ _ _
    refine To.seq (by kernel_rfl) ?_
    refine To.block 1 (by kernel_rfl) ?_
    refine To.seq (by kernel_rfl) ?_
    refine To.region (by kernel_rfl) ?_
    refine Sg.go 1 (by kernel_rfl) ?_
    refine Sg.op (some 25) (by kernel_rfl) (jIdx (id := lid) (off := loff) (sz := 1) (len := fs0.length) (k := i) (by omega) (by kernel_rfl)) ?_
    refine Sg.op (some 26) (by kernel_rfl) (jLoadX (id := lid) (off := loff + i * 1) (x := .ptr bb 0) (by rw [Nat.mul_one]; exact (hlat i _ hx).mono (s6.mono _)) (by kernel_rfl)) ?_
    obtain ⟨pf, hbb, hpf⟩ := id hBv
    refine Sg.go 2 (by kernel_rfl) ?_
    refine Sg.done (by kernel_rfl) ?_
    show To Tryz.prog 9 [1, 0, 0, 1, 1, 0, 0, 1, 0, 1, 1, 1] _ _ _ _
    refine To.seq (by kernel_rfl) ?_
    refine To.region (by kernel_rfl) ?_
    refine Sg.go 4 (by kernel_rfl) ?_
    refine Sg.op (some 31) (by kernel_rfl) (jLoad (off := 0) (x := .int .i64 ((k : Nat) : Int)) (s6.mono _ _ hbb) (by kernel_rfl) (by kernel_rfl)) ?_
    refine Sg.go 1 (by kernel_rfl) ?_
    refine Sg.op (some 33) (by kernel_rfl) (jMin (mx := false) (x := ((x : Nat) : Int)) (y := (100 : Int)) (z := ((x : Nat) : Int)) (by simp only [Bool.false_eq_true, if_false]; split <;> omega) (by kernel_rfl)) ?_
    refine Sg.op (some 34) (by kernel_rfl) (jMin (mx := true) (x := (0 : Int)) (y := ((x : Nat) : Int)) (z := ((x : Nat) : Int)) (by simp only [if_true]; split <;> omega) (by kernel_rfl)) ?_
    refine Sg.op (some 35) (by kernel_rfl) (jBin (b_addN (k) (x) (by omega)) (by kernel_rfl)) ?_
    refine Sg.go 1 (by kernel_rfl) ?_
    refine Sg.done (by kernel_rfl) ?_
    show To Tryz.prog 9 [1, 1, 0, 0, 1, 1, 0, 0, 1, 0, 1, 1, 1] _ _ _ _
    refine To.block 2 (by kernel_rfl) ?_
    refine To.loop (by kernel_rfl) ?_
    refine ToL.for (k + x) (fun e A Hq nq => ∃ (Y : Heap) (a : F) (fs : List F), AtL A [(0, vf (.ptr (o) (0))), (3, vf (.int .i64 90)), (5, vf (.ptr (n) (0))), (2, vf (.int .i64 ((x : Nat) : Int))), (9, vf (a)), (10, vf (.int .i64 ((i : Nat) : Int))), (11, vf (.ptr (bb) (0))), (20, vf (.sl (lid) (loff) 1 (fs0.length) lcap)), (21, vf (.int .i64 ((fs0.length : Nat) : Int))), (22, vf (.int .i64 ((i : Nat) : Int))), (35, vf (.int .i64 ((k + x : Nat) : Int))), (36, vf (.int .i64 ((e : Nat) : Int)))] ∧ Sep Y Hq nq ([(n, .cells [.int .i64 1, .int .i64 1] true)] ++ (accM (a) (fs) ++ [])) ∧ (Mono X Y) ∧ (Y o = some (.cells [.int .i64 ((B : Nat) : Int), .int .i64 ((N : Nat) : Int), .int .i64 ((M : Nat) : Int)  , .sl lid loff 1 fs0.length lcap] true)) ∧ (rowA Y 1 (.sl lid loff 1 fs0.length lcap) = some fs0) ∧ (All2 (BlkV N Y) fs0 bl) ∧ (BlockV Y bb k N cs) ∧ (AccF 10 a fs) ∧ (Cat (RecV B N M Y) 10 (recU N x bl i ++ (List.range e).map fun e => ⟨i, e, comb N (rowE k e) cs⟩) fs) ∧ (fs.length ≤ i * 200 + e * 10)) ⟨Y, a, fs, getsL_spec (ts := [0, 3, 5, 2, 9, 10, 11, 20, 21, 22, 35, 36]) (by kernel_rfl), s6, (hm0), (hO), (hr), (hA), (hBv), (ha), (by simpa using hc), (by omega)⟩ (fun e A H7 n8 hi hI => ?_) (fun A H7 n8 hI => ?_)
    · skip
      obtain ⟨Y, a, fs, hT, s9, hm0, hO, hr, hA, hBv, ha, hc, hl⟩ := hI
      refine To.keep _ ?_ hT.sub
      refine To.seq (by kernel_rfl) ?_
      refine To.region (by kernel_rfl) ?_
      refine Sg.op (some 37) (by kernel_rfl) (jBin (b_lssT .i64 (x := ((e : Nat) : Int)) (y := ((k + x : Nat) : Int)) (by omega)) (by kernel_rfl)) ?_
      refine Sg.done (by kernel_rfl) ?_
      show To Tryz.prog 9 [1, 0, 0, 1, 1, 0, 0, 1, 1, 0, 0, 1, 0, 1, 1, 1] _ _ _ _
      refine To.seq (by kernel_rfl) ?_
      refine To.ifT (by kernel_rfl) (by kernel_rfl) ?_
      refine To.skip (by kernel_rfl) ?_
      show To Tryz.prog 9 [1, 1, 0, 0, 1, 1, 0, 0, 1, 1, 0, 0, 1, 0, 1, 1, 1] _ _ _ _
      refine To.seq (by kernel_rfl) ?_
      refine To.block 3 (by kernel_rfl) ?_
      refine To.seq (by kernel_rfl) ?_
      refine To.region (by kernel_rfl) ?_
      refine Sg.go 2 (by kernel_rfl) ?_
      refine Sg.done (by kernel_rfl) ?_
      show To Tryz.prog 9 [1, 0, 0, 1, 1, 0, 0, 1, 1, 0, 0, 1, 1, 0, 0, 1, 0, 1, 1, 1] _ _ _ _
      refine To.seq (by kernel_rfl) ?_
      refine To.region (by kernel_rfl) ?_
      refine Sg.go 2 (by kernel_rfl) ?_
      obtain ⟨_, X10, n11, hc12, hm13, ht14, ⟨g, rfl, hg⟩⟩ := (symbol_pure cs h1 h8 (parts_s h1 h8 (by omega)) (by omega) hBv hcs hN0 (by omega) s9.topX : PureC 26 [vf (.ptr (bb) (0)), vf (.int .i64 ((e : Nat) : Int))] Y (n8) _)
      obtain ⟨H15, hc16, s17⟩ := s9.call hc12 hm13 ht14
      have f18 := hm13 _ _ hO
      have hm0 := hm0.tr hm13
      have hr := rowA_mono hm13 hr
      have hBv := hBv.mono hm13
      have hc := hc.mono fun _ _ h => h.mono _ _ _ _ hm13
      have hA := hA.mono fun _ _ q => q.mono hm13
      refine Sg.op (some 42) (by kernel_rfl) (jCall (by kernel_rfl) hc16 (by kernel_rfl)) ?_
      refine Sg.go 5 (by kernel_rfl) ?_
      refine Sg.done (by kernel_rfl) ?_
      show To Tryz.prog 9 [1, 1, 0, 0, 1, 1, 0, 0, 1, 1, 0, 0, 1, 1, 0, 0, 1, 0, 1, 1, 1] _ _ _ _
      refine To.draw [0, 1, 2, 3, 4, 5, 6, 7, 8, 9, 10, 11, 12, 13] progOk (by kernel_rfl) (by kernel_rfl) ?_
      refine Sd.go (L := [1, 2, 3, 4, 5, 6, 7, 8, 9, 10, 11, 12, 13]) [0] (by kernel_rfl) ?_
      refine Sd.read (some 46) (n) (by kernel_rfl) (by kernel_rfl) (by kernel_rfl) trivial (jLoadAE (off := 0) (sz := 2) (c := [.int .i64 1, .int .i64 1]) (s17.at 0 rfl) (by simp) rfl (by kernel_rfl)) ?_
      refine Sd.go (L := [5, 6, 7, 8, 9, 10, 11, 12, 13]) [2, 3, 4] (by kernel_rfl) ?_
      refine Sd.read (some 50) (o) (by kernel_rfl) (by kernel_rfl) (by kernel_rfl) trivial (jLoadAE (off := 0) (sz := 3) (c := [.int .i64 ((B : Nat) : Int), .int .i64 ((N : Nat) : Int), .int .i64 ((M : Nat) : Int)]) (s17.mono _ _ f18) (by simp) rfl (by kernel_rfl)) ?_
      refine Sd.go (L := [11, 12, 13]) [6, 7, 8, 9, 10] (by kernel_rfl) ?_
      obtain ⟨X19, H20, s21, m22, f23, J24⟩ := jNewF s17 (.cells [.int .i64 1, .int .i64 1, .int .i64 ((B : Nat) : Int), .int .i64 ((N : Nat) : Int), .int .i64 ((M : Nat) : Int), .int .i64 ((i : Nat) : Int), .int .i64 ((e : Nat) : Int), .bool false, .int .i64 90, g] true)
      have f25 := m22 _ _ f18
      have hm0 := hm0.tr m22
      have hr := rowA_mono m22 hr
      have hBv := hBv.mono m22
      have hc := hc.mono fun _ _ h => h.mono _ _ _ _ m22
      have hA := hA.mono fun _ _ q => q.mono m22
      have hg := hg.mono m22
      refine Sd.eff (some 56) (by kernel_rfl) (by kernel_rfl) (J24 _ _ (vf (.sl (n11) (0) 10 (1) none)) (by kernel_rfl)) ⟨.inl (by kernel_rfl), .inl (by kernel_rfl), trivial⟩ ?_
      obtain ⟨a26, H27, n28, ha29, s30, J31⟩ := jAcc (sz := 10) (bytes := 96) (x := .sl (n11) (0) 10 (1) none) (fs := fs) (new := [.int .i64 1, .int .i64 1, .int .i64 ((B : Nat) : Int), .int .i64 ((N : Nat) : Int), .int .i64 ((M : Nat) : Int), .int .i64 ((i : Nat) : Int), .int .i64 ((e : Nat) : Int), .bool false, .int .i64 90, g]) (M1 := [(n, .cells [.int .i64 1, .int .i64 1] true)]) (M2 := []) s21 ha (row_all (s21.mono _ _ f23) rfl) (rfl) (by omega) (by omega)
      refine Sd.eff (some 57) (by kernel_rfl) (by kernel_rfl) (J31 _ _ (by kernel_rfl)) ⟨.inl (by kernel_rfl), .inl (by kernel_rfl), trivial⟩ ?_
      refine Sd.go (L := []) [13] (by kernel_rfl) ?_
      refine Sd.done ?_
      show To Tryz.prog 9 [1, 1, 1, 0, 0, 1, 1, 0, 0, 1, 1, 0, 0, 1, 0, 1, 1, 1] _ _ _ _
      refine To.region (by kernel_rfl) ?_
      refine Sg.op (some 58) (by kernel_rfl) (jBin (b_addN (e) (1) (by omega)) (by kernel_rfl)) ?_
      refine Sg.go 1 (by kernel_rfl) ?_
      refine Sg.done (by kernel_rfl) ?_
      exact .inl ⟨rfl, X19, _, _, getsL_spec (ts := [0, 3, 5, 2, 9, 10, 11, 20, 21, 22, 35, 36]) (by kernel_rfl), s30, (hm0), (f25), (hr), (hA), (hBv), (ha29), (by rw [range_snoc, ← List.append_assoc]; exact hc.snoc ⟨g, rfl, hg⟩ rfl), (by simp; omega)⟩
    · skip
      obtain ⟨Y, a, fs, hT, s32, hm0, hO, hr, hA, hBv, ha, hc, hl⟩ := hI
      refine To.keep _ ?_ hT.sub
      refine To.seq (by kernel_rfl) ?_
      refine To.region (by kernel_rfl) ?_
      refine Sg.op (some 37) (by kernel_rfl) (jBin (b_lssF .i64 (x := (((k + x) : Nat) : Int)) (y := ((k + x : Nat) : Int)) (by simp)) (by kernel_rfl)) ?_
      refine Sg.done (by kernel_rfl) ?_
      show To Tryz.prog 9 [1, 0, 0, 1, 1, 0, 0, 1, 1, 0, 0, 1, 0, 1, 1, 1] _ _ _ _
      refine To.seq (by kernel_rfl) ?_
      refine To.ifF (by kernel_rfl) (by kernel_rfl) ?_
      refine To.exit 2 (by kernel_rfl) ?_
      refine ⟨by simp, ?_⟩
      show To Tryz.prog 9 [1, 1, 1, 0, 0, 1, 0, 1, 1, 1] _ _ _ _
      refine To.region (by kernel_rfl) ?_
      refine Sg.op (some 59) (by kernel_rfl) (jBin (b_addN (i) (1) (by omega)) (by kernel_rfl)) ?_
      refine Sg.go 1 (by kernel_rfl) ?_
      refine Sg.done (by kernel_rfl) ?_
      exact .inl ⟨rfl, Y, _, _, getsL_spec (ts := [0, 2, 3, 5, 9, 20, 21, 22]) (by kernel_rfl), s32, (hm0), (hO), (hr), (hA), (ha), (by show Cat _ 10 (recU N x bl i ++ recB N x i ((bl[i]?).getD (0, []))) fs; rw [hbi, Option.getD_some]; exact hc), (by rw [Nat.add_mul]; omega)⟩
  · skip
    obtain ⟨Y, a, fs, hT, s33, hm0, hO, hr, hA, ha, hc, hl⟩ := hI
    refine To.keep _ ?_ hT.sub
    refine To.seq (by kernel_rfl) ?_
    refine To.region (by kernel_rfl) ?_
    refine Sg.op (some 23) (by kernel_rfl) (jBin (b_lssF .i64 (x := (((fs0.length) : Nat) : Int)) (y := ((fs0.length : Nat) : Int)) (by simp)) (by kernel_rfl)) ?_
    refine Sg.done (by kernel_rfl) ?_
    show To Tryz.prog 9 [1, 0, 0, 1, 0, 1, 1, 1] _ _ _ _
    obtain ⟨X34, m35, s36, hrow, hrowk⟩ := Sep.acc (sz := 10) (M1 := [(n, .cells [.int .i64 1, .int .i64 1] true)]) (M2 := []) (a := a) (fs := fs) (by simpa using s33) ha
    have f37 := m35 _ _ hO
    have hm0 := hm0.tr m35
    have hr := rowA_mono m35 hr
    have hc := hc.mono fun _ _ h => h.mono _ _ _ _ m35
    have hA := hA.mono fun _ _ q => q.mono m35
    have s36 : Sep X34 H4 (n5) [(n, .cells [.int .i64 1, .int .i64 1] true)] := by simpa using s36
    refine To.seq (by kernel_rfl) ?_
    refine To.ifF (by kernel_rfl) (by kernel_rfl) ?_
    refine To.exit 0 (by kernel_rfl) ?_
    refine ⟨by simp, ?_⟩
    show To Tryz.prog 9 [1, 1, 1, 1] _ _ _ _
    refine To.seq (by kernel_rfl) ?_
    refine To.region (by kernel_rfl) ?_
    refine Sg.go 2 (by kernel_rfl) ?_
    refine Sg.done (by kernel_rfl) ?_
    show To Tryz.prog 9 [1, 1, 1, 1, 1] _ _ _ _
    refine To.ret (by kernel_rfl) ?_
    exact ⟨.inr rfl, _, by kernel_rfl, X34, _, s36, hm0, _, rfl, by rw [hfl] at hc; exact SlV.of_acc ha (by omega) hrowk hc⟩
end Go.Proofs.YtkimkgbppegkhaaGreat.Cm
