/- The clean machine's walks of solving (4): Solve. -/
import Derived.Test.YtkimkgbppegkhaaGreatGc
namespace Go.Proofs.YtkimkgbppegkhaaGreat.Cm
open Go Go.RowKit Go.Proofs.YtkimkgbppegkhaaGreat.Gf
theorem AccF.some {sz : Nat} {a : F} {fs : List F} (h : AccF sz a fs) (h0 : 0 < fs.length) : ∃ k len, a = .sl k 0 sz len none ∧ fs.length = len * sz := by
  rcases h with ⟨rfl, rfl⟩ | h
  · simp at h0
  · exact h
/-- append to an empty list of a block of its own -/
theorem jApE {X H : Heap} {n sz bytes m id : Nat} {M : List (Nat × O)} {x : F} {new : List F} (s : Sep X H n M) (hid : H id = some (.cells [] true)) (hx : rowA H sz x = some new) (hm : lenA x = some m) (h0 : 0 < m) (hsz : 0 < sz) (hb : m * bytes * 2 ≤ 140737488355328) :
    ∃ H', Sep X H' (n + 1) ((n, .cells new false) :: M) ∧ ∀ (o : Oper) (r : Operand → Option V), apK Tryz.prog o r = some (sz, bytes, .sl id 0 sz 0 none, x) → OpJ Tryz.prog o r H n (vf (.sl n 0 sz m none)) H' (n + 1) := by
  refine ⟨_, s.newM (.cells new false), fun o r hk => ?_⟩
  have hmpos : 0 < m * sz := Nat.mul_pos h0 hsz
  exact jApp hx hm (ef := (vf (.sl n 0 sz m none), [(n, some (.cells new false))], 1)) (by
    simp only [appendA, if_true, hid]
    rw [if_pos (by simp), if_pos (by simpa using hb), if_neg (by simp; omega)]
    simp) hk
theorem sumRows_rw {N : Nat} {r : List Nat} (h : B8 r) : Rw N (sumRows N [r]) := by
  show Rw N (addR (zs N) r)
  exact ⟨by rw [addR_len]; simp, addR_b8 (zs_b8 N) h⟩
theorem sumRows_id {N : Nat} {r : List Nat} (h : Rw N r) : sumRows N [r] = r := by
  show addR (zs N) r = r
  rw [← h.1]
  exact zs_addR r
theorem All2.mem {α β : Type} {R : α → β → Prop} {l : List α} {k : List β} (h : All2 R l k) {b : β} (hb : b ∈ k) : ∃ a, R a b := by
  obtain ⟨i, hi, rfl⟩ := List.mem_iff_getElem.1 hb
  obtain ⟨a, _, h2⟩ := h.nth hi
  exact ⟨a, h2⟩
theorem RowsV.b8 {X : Heap} {f : F} {rs : List (List Nat)} (h : RowsV X f rs) : ∀ r ∈ rs, B8 r := fun r hr => by
  obtain ⟨fs, _, hA⟩ := h
  obtain ⟨a, ha⟩ := hA.mem hr
  exact ha.2.1
theorem mx_fit {len N : Nat} {rs : List (List Nat)} (hl : rs.length = len) (hb : ∀ r ∈ rs, B8 r) : Mx len N (rs.map fun r => sumRows N [r]) := ⟨by simp [hl], fun r hr => by
  obtain ⟨q, hq, rfl⟩ := List.mem_map.1 hr
  exact sumRows_rw (hb q hq)⟩
theorem bs_inv {l : List Nat} {i : Nat} {x : F} (h : (bs l)[i]? = some x) : ∃ y, l[i]? = some y ∧ x = .int .u8 (y : Int) := by
  unfold bs at h
  rw [List.getElem?_map, Option.map_eq_some_iff] at h
  obtain ⟨y, h1, h2⟩ := h
  exact ⟨y, h1, h2.symm⟩
theorem rowN_get {L : List (List Nat)} {i : Nat} (hi : i < L.length) : L[i]? = some (rowN L i) := by
  unfold rowN
  rw [List.getElem?_eq_getElem hi]
  rfl
theorem getD_mem {l : List Nat} {j : Nat} (hj : j < l.length) : (l[j]?).getD 0 ∈ l := by
  rw [List.getElem?_eq_getElem hj]
  exact List.getElem_mem hj
theorem row_cut {H : Heap} {id W : Nat} {fs : List F} {ex : Bool} {cap : Option Nat} (h : H id = some (.cells fs ex)) (hW : W ≤ fs.length) : rowA H 1 (.sl id (0 + 0 * 1) 1 W cap) = some (fs.take W) := by
  simp only [rowA, if_true, h]
  rw [if_pos (by omega)]
  simp

theorem clone101 {X : Heap} {n : Nat} {f : F} {cs : List F} (hr : rowA X 1 f = some cs) (h0 : 0 < cs.length) (hlt : cs.length < 100000) (ht : Top X n) : PureC 101 [vf (f)] X n fun v X' => ∃ g, v = vf g ∧ rowA X' 1 g = some cs := by
  refine PureC.of_to (by kernel_rfl) ?_
  have s0 := Sep.ini ht
  have hm0 : Mono X X := Mono.rfl
  obtain ⟨id, off, cap, rfl, hat⟩ := rowA_sl hr h0
  refine To.seq (by kernel_rfl) ?_
  refine To.region (by kernel_rfl) ?_
  refine Sg.go 1 (by kernel_rfl) ?_
  refine Sg.done (by kernel_rfl) ?_
  show To Tryz.prog 101 [1] _ _ _ _
  refine To.seq (by kernel_rfl) ?_
  refine To.seq (by kernel_rfl) ?_
  refine To.region (by kernel_rfl) ?_
  refine Sg.go 2 (by kernel_rfl) ?_
  refine Sg.done (by kernel_rfl) ?_
  show To Tryz.prog 101 [1, 0, 1] _ _ _ _
  refine To.ifF (by kernel_rfl) (by kernel_rfl) ?_
  refine To.skip (by kernel_rfl) ?_
  show To Tryz.prog 101 [1, 1] _ _ _ _
  refine To.seq (by kernel_rfl) ?_
  refine To.region (by kernel_rfl) ?_
  obtain ⟨X1, H2, s3, m4, f5, J6⟩ := jNewF s0 (.cells [] true)
  have hm0 := hm0.tr m4
  have hr := rowA_mono m4 hr
  refine Sg.op (some 5) (by kernel_rfl) (J6 _ _ (vf (.sl (n) (0) 1 (0) none)) (by kernel_rfl)) ?_
  refine Sg.go 1 (by kernel_rfl) ?_
  obtain ⟨H7, s8, J9⟩ := jApE (sz := 1) (bytes := 24) (m := cs.length) (x := .sl (id) (off) 1 (cs.length) cap) s3 (s3.mono _ _ f5) (rowA_mono s3.mono hr) (rfl) (by omega) (by omega) (by omega)
  refine Sg.op (some 7) (by kernel_rfl) (J9 _ _ (by kernel_rfl)) ?_
  refine Sg.go 1 (by kernel_rfl) ?_
  refine Sg.done (by kernel_rfl) ?_
  show To Tryz.prog 101 [1, 1, 1] _ _ _ _
  refine To.ret (by kernel_rfl) ?_
  exact ⟨.inr rfl, vf (.sl (n + 1) 0 1 cs.length none), by kernel_rfl, _, _, s8.frz.1, hm0.tr s8.frz.2, _, rfl, row_all (upd_same _ _ _) (by simp)⟩
theorem is100 {X : Heap} {n : Nat} {y : Nat} (ht : Top X n) : PureC 100 [vf (.int .u8 ((y : Nat) : Int))] X n fun v X' => v = vf (.bool (decide (y ≠ 0))) := by
  refine PureC.of_to (by kernel_rfl) ?_
  have s0 := Sep.ini ht
  have hm0 : Mono X X := Mono.rfl
  refine To.seq (by kernel_rfl) ?_
  refine To.region (by kernel_rfl) ?_
  refine Sg.go 1 (by kernel_rfl) ?_
  refine Sg.done (by kernel_rfl) ?_
  show To Tryz.prog 100 [1] _ _ _ _
  refine To.seq (by kernel_rfl) ?_
  refine To.region (by kernel_rfl) ?_
  refine Sg.go 1 (by kernel_rfl) ?_
  refine Sg.op (some 4) (by kernel_rfl) (jBin (op := .neq) (a := vb y) (b := vf (.int .u8 0)) (fun t => b_neq .u8 ((y : Nat) : Int) 0 t) (by kernel_rfl)) ?_
  refine Sg.go 1 (by kernel_rfl) ?_
  refine Sg.done (by kernel_rfl) ?_
  show To Tryz.prog 100 [1, 1] _ _ _ _
  refine To.ret (by kernel_rfl) ?_
  exact ⟨.inr rfl, vf (.bool (decide (((y : Nat) : Int) ≠ 0))), by kernel_rfl, X, _, s0, hm0, by congr 3; exact propext (by omega)⟩
theorem solve_any {X : Heap} {n : Nat} {W N len : Nat} {fm fd : F} (ms ds : List (List Nat)) (hm : RowsV X fm ms) (hd : RowsV X fd ds) (hml : ms.length = len) (hdl : ds.length = len) (h0 : 0 < len) (hlt : len < 100000) (hW0 : 0 < W) (hW : W ≤ 300) (hN0 : 0 < N) (hN : N ≤ 1000) (ht : Top X n) : PureC 70 [vf (.int .i64 ((W : Nat) : Int)), vf (.int .i64 ((N : Nat) : Int)), vf (fm), vf (fd)] X n fun v X' => ∃ g e, v = .tup [.f g, .f (.int .i64 e)] ∧ ((e = 0 ∧ ∃ out, RowsV X' g out ∧ Solved W N len (ms.map fun r => sumRows W [r]) (ds.map fun r => sumRows N [r]) out) ∨ (e = 4 ∧ g = .sl0 ∧ Unsolved W N len (ms.map fun r => sumRows W [r]) (ds.map fun r => sumRows N [r]))) := by
  refine PureC.of_to (by kernel_rfl) ?_
  have s0 := Sep.ini ht
  have hm0 : Mono X X := Mono.rfl
  refine To.seq (by kernel_rfl) ?_
  refine To.region (by kernel_rfl) ?_
  refine Sg.go 2 (by kernel_rfl) ?_
  refine Sg.done (by kernel_rfl) ?_
  show To Tryz.prog 70 [1] _ _ _ _
  refine To.seq (by kernel_rfl) ?_
  refine To.seq (by kernel_rfl) ?_
  refine To.region (by kernel_rfl) ?_
  refine Sg.go 1 (by kernel_rfl) ?_
  refine Sg.op (some 13) (by kernel_rfl) (jBin (b_lssF .i64 (x := ((W : Nat) : Int)) (y := (1 : Int)) (by omega)) (by kernel_rfl)) ?_
  refine Sg.go 2 (by kernel_rfl) ?_
  refine Sg.op (some 16) (by kernel_rfl) (jBin (b_gtrF .i64 (x := ((W : Nat) : Int)) (y := (300 : Int)) (by omega)) (by kernel_rfl)) ?_
  refine Sg.go 3 (by kernel_rfl) ?_
  refine Sg.op (some 20) (by kernel_rfl) (jBin (b_lssF .i64 (x := ((N : Nat) : Int)) (y := (1 : Int)) (by omega)) (by kernel_rfl)) ?_
  refine Sg.go 3 (by kernel_rfl) ?_
  refine Sg.op (some 24) (by kernel_rfl) (jBin (b_gtrF .i64 (x := ((N : Nat) : Int)) (y := (1000 : Int)) (by omega)) (by kernel_rfl)) ?_
  refine Sg.go 3 (by kernel_rfl) ?_
  refine Sg.op (some 28) (by kernel_rfl) (jLenV (l := ms.length) (hm.lenA) (by kernel_rfl)) ?_
  refine Sg.go 1 (by kernel_rfl) ?_
  refine Sg.op (some 30) (by kernel_rfl) (jLenV (l := ds.length) (hd.lenA) (by kernel_rfl)) ?_
  refine Sg.op (some 31) (by kernel_rfl) (jBin (b_neqF .i64 (x := ((ms.length : Nat) : Int)) (y := ((ds.length : Nat) : Int)) (by omega)) (by kernel_rfl)) ?_
  refine Sg.go 1 (by kernel_rfl) ?_
  refine Sg.done (by kernel_rfl) ?_
  show To Tryz.prog 70 [1, 0, 1] _ _ _ _
  refine To.ifF (by kernel_rfl) (by kernel_rfl) ?_
  refine To.skip (by kernel_rfl) ?_
  show To Tryz.prog 70 [1, 1] _ _ _ _
  refine To.seq (by kernel_rfl) ?_
  refine To.region (by kernel_rfl) ?_
  refine Sg.go 2 (by kernel_rfl) ?_
  obtain ⟨_, X10, H11, n12, _, hc14, hm15, s16, ⟨a1, fs1, rfl, rfl, ha1, hA1⟩⟩ := (fit_make (N := W) ms hm (by omega) (by omega) s0.topX : MakeC 94 [vf (.int .i64 ((W : Nat) : Int)), vf (fm)] X (n) _)
  obtain ⟨H17, hc18, s19⟩ := s0.callA hc14 hm15 s16
  have hm0 := hm0.tr hm15
  have hm := hm.mono hm15
  have hd := hd.mono hm15
  have s20 : Sep X10 H17 n12 ([] ++ (accM (a1) (fs1) ++ [])) := by simpa using s19
  refine Sg.op (some 35) (by kernel_rfl) (jCall (by kernel_rfl) hc18 (by kernel_rfl)) ?_
  refine Sg.go 2 (by kernel_rfl) ?_
  obtain ⟨_, X21, H22, n23, _, hc25, hm26, s27, ⟨a2, fs2, rfl, rfl, ha2, hB1⟩⟩ := (fit_make (N := N) ds hd (by omega) (by omega) s20.topX : MakeC 94 [vf (.int .i64 ((N : Nat) : Int)), vf (fd)] X10 (n12) _)
  obtain ⟨H28, hc29, s30⟩ := s20.callA hc25 hm26 s27
  have hm0 := hm0.tr hm26
  have hm := hm.mono hm26
  have hd := hd.mono hm26
  have hA1 := hA1.mono fun _ _ q => q.mono hm26
  have s31 : Sep X21 H28 n23 ([] ++ (accM (a1) (fs1) ++ (accM (a2) (fs2) ++ []))) := by simpa using s30
  refine Sg.op (some 38) (by kernel_rfl) (jCall (by kernel_rfl) hc29 (by kernel_rfl)) ?_
  have hl1 : fs1.length = len := by have := hA1.length; simp at this; omega
  have hl2 : fs2.length = len := by have := hB1.length; simp at this; omega
  obtain ⟨im, l1, rfl, hq1⟩ := ha1.some (by omega)
  obtain ⟨di, l2, rfl, hq2⟩ := ha2.some (by omega)
  cases (show len = l1 by omega)
  cases (show len = l2 by omega)
  have hms := mx_fit (N := W) hml hm.b8
  have hds := mx_fit (N := N) hdl hd.b8
  skip
  have s32 : Sep X21 H28 n23 [(im, .cells (fs1) false), (di, .cells (fs2) false)] := s31
  refine Sg.go 2 (by kernel_rfl) ?_
  refine Sg.done (by kernel_rfl) ?_
  show To Tryz.prog 70 [1, 1, 1] _ _ _ _
  refine To.seq (by kernel_rfl) ?_
  refine To.seq (by kernel_rfl) ?_
  refine To.region (by kernel_rfl) ?_
  refine Sg.go 3 (by kernel_rfl) ?_
  obtain ⟨_, H33, n34, hc35, k, X36, fs3, fs4, ts, rfl, s37, hm38, hA3, hB3, hts, hkW, hkl, hU, hz⟩ := reduce_any (W := W) (N := N) (len := len) _ _ s32 hA1 hB1 hms hds hlt (by omega) (by omega) (by omega) (by omega)
  have hm0 := hm0.tr hm38
  have hm := hm.mono hm38
  have hd := hd.mono hm38
  have hA1 := hA1.mono fun _ _ q => q.mono hm38
  have hB1 := hB1.mono fun _ _ q => q.mono hm38
  refine Sg.op (some 42) (by kernel_rfl) (jCall (by kernel_rfl) hc35 (by kernel_rfl)) ?_
  have hmm := hms.runs hts
  have hdm := hds.runs hts
  have hl4 : fs4.length = len := by have := hB3.length; rw [hdm.1] at this; exact this.symm
  rcases Nat.lt_or_ge k W with hkW2 | hkW2
  · skip
    refine Sg.go 1 (by kernel_rfl) ?_
    refine Sg.op (some 44) (by kernel_rfl) (jBin (b_lssT .i64 (x := ((k : Nat) : Int)) (y := ((W : Nat) : Int)) (by omega)) (by kernel_rfl)) ?_
    refine Sg.done (by kernel_rfl) ?_
    show To Tryz.prog 70 [1, 0, 1, 1, 1] _ _ _ _
    refine To.ifT (by kernel_rfl) (by kernel_rfl) ?_
    refine To.seq (by kernel_rfl) ?_
    refine To.region (by kernel_rfl) ?_
    refine Sg.go 2 (by kernel_rfl) ?_
    refine Sg.done (by kernel_rfl) ?_
    show To Tryz.prog 70 [1, 0, 1, 0, 1, 1, 1] _ _ _ _
    refine To.ret (by kernel_rfl) ?_
    exact ⟨.inr rfl, _, by kernel_rfl, X36, _, s37, hm0, _, _, rfl, .inr ⟨rfl, rfl, ⟨ts, hts, .inl ⟨k, hkW2, hkl, hU.units hmm (by omega), fun i r hi hr => by
        have hil : i < len := by
          rcases Nat.lt_or_ge i len with h | h
          · exact h
          · rw [List.getElem?_eq_none (by rw [hmm.1]; exact h)] at hr; cases hr
        have h1 := colN_some hmm hil hkW2
        rw [hz hkW2 i hi hil] at h1
        have e : rowN (runs ts (ms.map fun r => sumRows W [r])) i = r := by unfold rowN; rw [hr]; rfl
        rw [← e]; exact h1⟩⟩⟩⟩
  · skip
    refine Sg.go 1 (by kernel_rfl) ?_
    refine Sg.op (some 44) (by kernel_rfl) (jBin (b_lssF .i64 (x := ((k : Nat) : Int)) (y := ((W : Nat) : Int)) (by omega)) (by kernel_rfl)) ?_
    refine Sg.done (by kernel_rfl) ?_
    show To Tryz.prog 70 [1, 0, 1, 1, 1] _ _ _ _
    cases (show W = k by omega)
    have s39 := (s37.del 0).frz.1
    have f40 : (upd X36 di (some (.cells fs4 false))) di = some (.cells fs4 false) := upd_same _ _ _
    have hmz := (s37.del 0).frz.2
    have hm0 := hm0.tr hmz
    have hm := hm.mono hmz
    have hd := hd.mono hmz
    have hA1 := hA1.mono fun _ _ q => q.mono hmz
    have hB1 := hB1.mono fun _ _ q => q.mono hmz
    have hA3 := hA3.mono fun _ _ q => q.mono hmz
    have hB3 := hB3.mono fun _ _ q => q.mono hmz
    refine To.ifF (by kernel_rfl) (by kernel_rfl) ?_
    refine To.skip (by kernel_rfl) ?_
    show To Tryz.prog 70 [1, 1, 1, 1] _ _ _ _
    refine To.seq (by kernel_rfl) ?_
    refine To.seq (by kernel_rfl) ?_
    refine To.region (by kernel_rfl) ?_
    refine Sg.go 2 (by kernel_rfl) ?_
    refine Sg.op (some 47) (by kernel_rfl) (jSlice (id := di) (off := 0) (sz := 1) (len := len) (cap := none) (lo := some W) (hi := none) (L := len) (l := W) (h := len) (by rw [s39.mono _ _ f40]; exact congrArg some hl4) rfl rfl (by omega) (by omega) (by simp) (by omega) (by kernel_rfl)) ?_
    refine Sg.op (some 48) (by kernel_rfl) (jLen (l := len - W) (by kernel_rfl)) ?_
    refine Sg.go 1 (by kernel_rfl) ?_
    refine Sg.done (by kernel_rfl) ?_
    show To Tryz.prog 70 [1, 0, 1, 1, 1, 1] _ _ _ _
    refine To.block 0 (by kernel_rfl) ?_
    refine To.loop (by kernel_rfl) ?_
    refine ToL.for (len - W) (fun i A H n => ∃ (Y : Heap), AtL A [(0, vf (.int .i64 ((W : Nat) : Int))), (3, vf (.sl (di) (0) 1 (len) none)), (47, vf (.sl (di) (0 + W * 1) 1 (len - W) none)), (48, vf (.int .i64 ((len - W : Nat) : Int))), (49, vf (.int .i64 ((i : Nat) : Int)))] ∧ Sep Y H n [] ∧ Mono X Y ∧ Y di = some (.cells fs4 false) ∧ All2 (RowV Y) fs4 (runs ts (ds.map fun r => sumRows N [r])) ∧ ∀ j e, W ≤ j → j < W + i → (runs ts (ds.map fun r => sumRows N [r]))[j]? = some e → ∀ x ∈ e, x = 0) ⟨(upd X36 di (some (.cells fs4 false))), getsL_spec (ts := [0, 3, 47, 48, 49]) (by kernel_rfl), s39, (hm0), (f40), (hB3), (fun j e h1 h2 => by omega)⟩ (fun i A H n hi hI => ?_) (fun A H n hI => ?_)
    · skip
      obtain ⟨Y, hT, s41, hm0, hdi, hB3, hzz⟩ := hI
      refine To.keep _ ?_ hT.sub
      have hwi : W + i < len := by omega
      obtain ⟨g, hg0, hg1⟩ := hB3.row (i := W + i) (by rw [hdm.1]; exact hwi)
      refine To.seq (by kernel_rfl) ?_
      refine To.region (by kernel_rfl) ?_
      refine Sg.op (some 50) (by kernel_rfl) (jBin (b_lssT .i64 (x := ((i : Nat) : Int)) (y := ((len - W : Nat) : Int)) (by omega)) (by kernel_rfl)) ?_
      refine Sg.done (by kernel_rfl) ?_
      show To Tryz.prog 70 [1, 0, 0, 1, 0, 1, 1, 1, 1] _ _ _ _
      refine To.seq (by kernel_rfl) ?_
      refine To.ifT (by kernel_rfl) (by kernel_rfl) ?_
      refine To.skip (by kernel_rfl) ?_
      show To Tryz.prog 70 [1, 1, 0, 0, 1, 0, 1, 1, 1, 1] _ _ _ _
      refine To.seq (by kernel_rfl) ?_
      refine To.block 1 (by kernel_rfl) ?_
      refine To.seq (by kernel_rfl) ?_
      refine To.region (by kernel_rfl) ?_
      refine Sg.op (some 51) (by kernel_rfl) (jIdx (id := di) (off := 0 + W * 1) (sz := 1) (len := len - W) (k := i) (by omega) (by kernel_rfl)) ?_
      refine Sg.op (some 52) (by kernel_rfl) (jLoadX (id := di) (off := (0 + W * 1) + i * 1) (x := g) (by exact .inl ⟨fs4, false, s41.mono _ _ hdi, by rw [show 0 + W * 1 + i * 1 = W + i by omega]; exact hg0⟩) (by kernel_rfl)) ?_
      obtain ⟨v, X2, n2, hc, hm, ht2, hfi⟩ := (contains99 (g := 100) (caps := []) (fun j => decide (((rowN (runs ts (ds.map fun r => sumRows N [r])) (W + i))[j]?).getD 0 ≠ 0)) hg1.1 (by rw [bs_len, (hdm.row hwi).1]; omega) (by kernel_rfl) (fun j x hx Y' m' _ ht' => by
          obtain ⟨y, hy, rfl⟩ := bs_inv hx
          rw [hy]
          exact is100 ht') s41.topX : PureC _ _ _ _ _)
      rcases hfi with ⟨rfl, j, hj, hpj⟩ | ⟨rfl, hn⟩
      · skip
        refine Sg.go 1 (by kernel_rfl) ?_
        refine Sg.done (by kernel_rfl) ?_
        show To Tryz.prog 70 [1, 0, 0, 1, 1, 0, 0, 1, 0, 1, 1, 1, 1] _ _ _ _
        refine To.seq (by kernel_rfl) ?_
        refine To.region (by kernel_rfl) ?_
        refine Sg.go 1 (by kernel_rfl) ?_
        obtain ⟨_, X42, n43, hc44, hm45, ht46, rfl⟩ := (PureC.same hc hm ht2 : PureC 99 [vf (g), .u (.fn 100 [])] Y (n) _)
        obtain ⟨H47, hc48, s49⟩ := s41.call hc44 hm45 ht46
        have f50 := hm45 _ _ hdi
        have hm0 := hm0.tr hm45
        have hB3 := hB3.mono fun _ _ q => q.mono hm45
        have hdi := hm45 _ _ hdi
        have hg1 := hg1.mono hm45
        refine Sg.op (some 54) (by kernel_rfl) (jCall (by kernel_rfl) hc48 (by kernel_rfl)) ?_
        refine Sg.done (by kernel_rfl) ?_
        show To Tryz.prog 70 [1, 1, 0, 0, 1, 1, 0, 0, 1, 0, 1, 1, 1, 1] _ _ _ _
        refine To.ifT (by kernel_rfl) (by kernel_rfl) ?_
        refine To.seq (by kernel_rfl) ?_
        refine To.region (by kernel_rfl) ?_
        refine Sg.go 2 (by kernel_rfl) ?_
        refine Sg.done (by kernel_rfl) ?_
        show To Tryz.prog 70 [1, 0, 1, 1, 0, 0, 1, 1, 0, 0, 1, 0, 1, 1, 1, 1] _ _ _ _
        refine To.ret (by kernel_rfl) ?_
        refine .inr ⟨by simp, ?_⟩
        exact ⟨.inr rfl, _, by kernel_rfl, X42, _, s49, hm0, _, _, rfl, .inr ⟨rfl, rfl, ⟨ts, hts, .inr ⟨hU.units hmm (by omega), by omega, W + i, _, by omega, rowN_get (by rw [hdm.1]; exact hwi), _, getD_mem (by rw [bs_len] at hj; exact hj), of_decide_eq_true hpj⟩⟩⟩⟩
      · skip
        refine Sg.go 1 (by kernel_rfl) ?_
        refine Sg.done (by kernel_rfl) ?_
        show To Tryz.prog 70 [1, 0, 0, 1, 1, 0, 0, 1, 0, 1, 1, 1, 1] _ _ _ _
        refine To.seq (by kernel_rfl) ?_
        refine To.region (by kernel_rfl) ?_
        refine Sg.go 1 (by kernel_rfl) ?_
        obtain ⟨_, X51, n52, hc53, hm54, ht55, rfl⟩ := (PureC.same hc hm ht2 : PureC 99 [vf (g), .u (.fn 100 [])] Y (n) _)
        obtain ⟨H56, hc57, s58⟩ := s41.call hc53 hm54 ht55
        have f59 := hm54 _ _ hdi
        have hm0 := hm0.tr hm54
        have hB3 := hB3.mono fun _ _ q => q.mono hm54
        have hdi := hm54 _ _ hdi
        have hg1 := hg1.mono hm54
        refine Sg.op (some 54) (by kernel_rfl) (jCall (by kernel_rfl) hc57 (by kernel_rfl)) ?_
        refine Sg.done (by kernel_rfl) ?_
        show To Tryz.prog 70 [1, 1, 0, 0, 1, 1, 0, 0, 1, 0, 1, 1, 1, 1] _ _ _ _
        refine To.ifF (by kernel_rfl) (by kernel_rfl) ?_
        refine To.skip (by kernel_rfl) ?_
        show To Tryz.prog 70 [1, 1, 1, 0, 0, 1, 0, 1, 1, 1, 1] _ _ _ _
        refine To.region (by kernel_rfl) ?_
        refine Sg.op (some 55) (by kernel_rfl) (jBin (b_addN (i) (1) (by omega)) (by kernel_rfl)) ?_
        refine Sg.go 1 (by kernel_rfl) ?_
        refine Sg.done (by kernel_rfl) ?_
        exact .inl ⟨rfl, X51, getsL_spec (ts := [0, 3, 47, 48, 49]) (by kernel_rfl), s58, (hm0), (hdi), (hB3), (fun j e h1 h2 he x hx => by
            rcases Nat.lt_or_ge j (W + i) with h | h
            · exact hzz j e h1 h he x hx
            · have hjw : j = W + i := by omega
              subst hjw
              rw [rowN_get (by rw [hdm.1]; exact hwi)] at he
              cases he
              obtain ⟨q, hq, rfl⟩ := List.mem_iff_getElem.1 hx
              have := of_decide_eq_false (hn q (by rw [bs_len]; exact hq))
              rw [List.getElem?_eq_getElem hq] at this
              exact Classical.byContradiction this)⟩
    · skip
      obtain ⟨Y, hT, s60, hm0, hdi, hB3, hzz⟩ := hI
      refine To.keep _ ?_ hT.sub
      refine To.seq (by kernel_rfl) ?_
      refine To.region (by kernel_rfl) ?_
      refine Sg.op (some 50) (by kernel_rfl) (jBin (b_lssF .i64 (x := (((len - W) : Nat) : Int)) (y := ((len - W : Nat) : Int)) (by simp)) (by kernel_rfl)) ?_
      refine Sg.done (by kernel_rfl) ?_
      show To Tryz.prog 70 [1, 0, 0, 1, 0, 1, 1, 1, 1] _ _ _ _
      refine To.seq (by kernel_rfl) ?_
      refine To.ifF (by kernel_rfl) (by kernel_rfl) ?_
      refine To.exit 0 (by kernel_rfl) ?_
      refine ⟨by simp, ?_⟩
      show To Tryz.prog 70 [1, 1, 1, 1, 1] _ _ _ _
      refine To.seq (by kernel_rfl) ?_
      refine To.region (by kernel_rfl) ?_
      refine Sg.go 2 (by kernel_rfl) ?_
      refine Sg.op (some 58) (by kernel_rfl) (jSlice (id := di) (off := 0) (sz := 1) (len := len) (cap := none) (lo := none) (hi := some W) (L := len) (l := 0) (h := W) (by rw [s60.mono _ _ hdi]; exact congrArg some hl4) rfl rfl (by omega) (by omega) (by simp) (by omega) (by kernel_rfl)) ?_
      obtain ⟨_, X61, n62, hc63, hm64, ht65, ⟨g, rfl, hg⟩⟩ := (clone101 (row_cut (W := W - 0) hdi (by omega)) (by simp; omega) (by simp; omega) s60.topX : PureC 101 [vf (.sl (di) (0 + 0 * 1) 1 (W - 0) none)] Y (n) _)
      obtain ⟨H66, hc67, s68⟩ := s60.call hc63 hm64 ht65
      have f69 := hm64 _ _ hdi
      have hm0 := hm0.tr hm64
      have hB3 := hB3.mono fun _ _ q => q.mono hm64
      have hdi := hm64 _ _ hdi
      refine Sg.op (some 59) (by kernel_rfl) (jCall (by kernel_rfl) hc67 (by kernel_rfl)) ?_
      refine Sg.go 2 (by kernel_rfl) ?_
      refine Sg.done (by kernel_rfl) ?_
      show To Tryz.prog 70 [1, 1, 1, 1, 1, 1] _ _ _ _
      refine To.ret (by kernel_rfl) ?_
      exact ⟨.inr rfl, _, by kernel_rfl, X61, _, s68, hm0, _, _, rfl, .inl ⟨rfl, (runs ts (ds.map fun r => sumRows N [r])).take W, ⟨_, hg, by rw [Nat.sub_zero]; exact hB3.take W⟩, ⟨ts, hts, hU.units hmm (by omega), by omega, rfl, fun j e h1 he => hzz j e h1 (by rcases Nat.lt_or_ge j len with h | h; omega; rw [List.getElem?_eq_none (by rw [hdm.1]; exact h)] at he; cases he) he⟩⟩⟩
end Go.Proofs.YtkimkgbppegkhaaGreat.Cm
