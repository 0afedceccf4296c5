/- The clean machine's walks of what makes symbols of symbols. -/
import Derived.Test.YtkimkgbppegkhaaGreatGp
namespace Go.Proofs.YtkimkgbppegkhaaGreat.Cm
open Go Go.RowKit Go.Proofs.YtkimkgbppegkhaaGreat.Gf
set_option maxRecDepth 1000000
theorem Solved.not_un {W N len : Nat} {m d out : List (List Nat)} (hm : Mx len W m) (hd : Mx len N d) (h : Solved W N len m d out) (hu : Unsolved W N len m d) : False := by
  have hmx := h.mx hd
  obtain ⟨ys, y1, y2, y3, y4⟩ := hu.null hm hd hmx.1 hmx.2 (h.right hm hd)
  exact y4 (h.inj hm y1 y2 y3)
theorem BlS.sys {data : List Nat} {B N M i : Nat} {q : Nat × List (List Nat)} (hb : B8 data) (hS : ShOk B N M) (hi : i < blkS B N M) (h : BlS data B N M i q) :
    Mx (sK q.1 + 2 + (List.range q.1).length) (lK q.1) (matK q.1 (List.range q.1)) ∧ Mx (sK q.1 + 2 + (List.range q.1).length) N (besK q.1 N (blkR data N (symS B N) M i)) := by
  have hk := (kS_all hS).2.2 i hi
  have h1 := h.1
  have hd : Mx (List.range q.1).length N (blkR data N (symS B N) M i) := by rw [List.length_range, h1]; exact blkR_mx hb _ _ _ _
  exact ⟨matK_mx (by omega) (by omega) (List.range q.1), besK_mx hd⟩
theorem BlAll.no_un {data : List Nat} {B N M i : Nat} {bl : List (Nat × List (List Nat))} (h : BlAll data B N M bl) (hb : B8 data) (hS : ShOk B N M) (hbl : bl.length = blkS B N M) (hi : i < blkS B N M)
    (hu : Unsolved (lK (kS B N M i)) N (sK (kS B N M i) + 2 + (List.range (kS B N M i)).length) (matK (kS B N M i) (List.range (kS B N M i))) (besK (kS B N M i) N (blkR data N (symS B N) M i))) : False := by
  have e : bl[i]? = some bl[i] := List.getElem?_eq_getElem (by omega)
  have h1 := h i _ e
  obtain ⟨g1, g2⟩ := h1.sys hb hS hi
  rw [← h1.1] at hu
  exact h1.2.not_un g1 g2 hu
theorem BlS.one {data : List Nat} {B N M i : Nat} {q q' : Nat × List (List Nat)} (hb : B8 data) (hS : ShOk B N M) (hi : i < blkS B N M) (h : BlS data B N M i q) (h' : BlS data B N M i q') : q = q' := by
  obtain ⟨k, o⟩ := q
  obtain ⟨k', o'⟩ := q'
  obtain rfl : k = k' := h.1.trans h'.1.symm
  obtain ⟨g1, g2⟩ := h.sys hb hS hi
  have hx := h'.2.mx g2
  have : o = o' := h.2.one g1 g2 hx.1 hx.2 (h'.2.right g1 g2)
  rw [this]
theorem BlAll.one {data : List Nat} {B N M : Nat} {bl bl' : List (Nat × List (List Nat))} (h : BlAll data B N M bl) (h' : BlAll data B N M bl') (hb : B8 data) (hS : ShOk B N M) (hl : bl.length = blkS B N M) (hl' : bl'.length = blkS B N M) : bl = bl' := by
  apply List.ext_getElem?
  intro i
  rcases Nat.lt_or_ge i (blkS B N M) with hi | hi
  · have e1 : bl[i]? = some bl[i] := List.getElem?_eq_getElem (by omega)
    have e2 : bl'[i]? = some bl'[i] := List.getElem?_eq_getElem (by omega)
    rw [e1, e2, (h i _ e1).one hb hS hi (h' i _ e2)]
  · rw [List.getElem?_eq_none (by omega), List.getElem?_eq_none (by omega)]
theorem gen0 {data : List Nat} {B N M i : Nat} {bl : List (Nat × List (List Nat))} (hb : B8 data) (hS : ShOk B N M) (hbl : bl.length = blkS B N M) (hA : BlAll data B N M bl) (hi : i < blkS B N M)
    (hu : Unsolved (lK (kS B N M i)) N (dL (kS B N M i) (drp (recU N 2 bl bl.length) i)) (dM (kS B N M i) (drp (recU N 2 bl bl.length) i)) (dD (kS B N M i) N (drp (recU N 2 bl bl.length) i))) : False := by
  obtain ⟨hown, hok⟩ := own_ok (x := 2) hb hS (by omega) hbl hA
  have e : bl[i]? = some bl[i] := List.getElem?_eq_getElem (by omega)
  have h1 := hA i _ e
  rw [← h1.1] at hu
  exact enough hb hS hi e h1 hown hok h1.2 rfl (fun x hx => recU_has bl.length i x _ (Nat.le_refl _) (by omega) e (by have := List.mem_range.1 hx; omega)) hu
theorem own_one {N b x : Nat} {bl : List (Nat × List (List Nat))} {d d' : List Nat} (h : Own N bl ⟨b, x, d⟩) (h' : Own N bl ⟨b, x, d'⟩) : d = d' := by
  obtain ⟨q, h1, h2⟩ := h
  obtain ⟨q', h3, h4⟩ := h'
  have h1 : bl[b]? = some q := h1
  have h3 : bl[b]? = some q' := h3
  rw [h1] at h3
  cases h3
  exact h2.trans h4.symm
theorem endV13 {A : Tm} {H : Heap} {id : Nat} {cs : List F} {e : Int} (h1 : A 12 = some (vf (.ptr id 0))) (h2 : A 13 = some (vf (.int .i64 e))) (h3 : H id = some (.cells cs true)) (h4 : cs.length = 10) : endV Tryz.prog 13 A H = some (.tup [.agg cs, .f (.int .i64 e)]) := by
  have g1 : Tryz.prog.funcs[13]? = some Tryz.f13 := Tryz.func13
  have g2 : Tryz.f13.results.toList = [.cell 12 40, .tmp 13] := by kernel_rfl
  have g3 : aggB Tryz.prog 40 = some true := by kernel_rfl
  have g4 : sizeT Tryz.prog 40 = some 10 := by kernel_rfl
  unfold endV
  rw [g1]
  simp only [g2, resA, h1, h2, h3, g3, g4]
  rw [if_pos (by omega), List.drop_zero, List.take_of_length_le (by omega)]
  rfl
theorem and1 (z : Int) : ∃ m : Nat, m ≤ 1 ∧ ∀ t, binA Tryz.prog .and t (vf (.int .i64 z)) (vf (.int .i64 1)) = some (.int .i64 ((m : Nat) : Int)) := by
  refine ⟨(BitVec.ofInt 64 z &&& BitVec.ofInt 64 1).toNat, ?_, fun t => b_bits (.inl rfl) ?_ t⟩
  · rw [BitVec.toNat_and]
    exact Nat.and_le_right
  · rw [bitsA_eq]
    show some (IntKind.i64.wrap ((BitVec.ofInt 64 z &&& BitVec.ofInt 64 1).toNat : Int)) = _
    have h : (BitVec.ofInt 64 z &&& BitVec.ofInt 64 1).toNat ≤ 1 := by
      rw [BitVec.toNat_and]
      exact Nat.and_le_right
    rw [wrap_id (by omega) (by show _ ≤ ((9223372036854775807 : Nat) : Int); omega)]

theorem esi_pure {X : Heap} {n : Nat} {g n1 : Nat} (hg : g < 4) (hn1 : n1 < 13) (ht : Top X n) : PureC 12 [vf (.int .i64 ((g + 2 : Nat) : Int)), vf (.int .i64 ((n1 : Nat) : Int))] X n fun v X' => v = vi (esiN g n1) := by
  refine PureC.of_to (by kernel_rfl) ?_
  have s0 := Sep.ini ht
  have hm0 : Mono X X := Mono.rfl
  have he : 40 + randN (g + 2) n1 16777176 < 16777216 := (esi_mem hg hn1).2
  refine To.seq (by kernel_rfl) ?_
  refine To.region (by kernel_rfl) ?_
  refine Sg.go 1 (by kernel_rfl) ?_
  refine Sg.done (by kernel_rfl) ?_
  show To Tryz.prog 12 [1] _ _ _ _
  refine To.seq (by kernel_rfl) ?_
  refine To.region (by kernel_rfl) ?_
  refine Sg.go 1 (by kernel_rfl) ?_
  refine Sg.op (some 6) (by kernel_rfl) (jConv (k := .u32) (x := ((g + 2 : Nat) : Int)) (z := ((g + 2 : Nat) : Int)) (wrap_id (by omega) (show ((g + 2 : Nat) : Int) ≤ ((4294967295 : Nat) : Int) by omega)) (by kernel_rfl)) ?_
  refine Sg.go 1 (by kernel_rfl) ?_
  refine Sg.op (some 8) (by kernel_rfl) (jConv (k := .u32) (x := ((n1 : Nat) : Int)) (z := ((n1 : Nat) : Int)) (wrap_id (by omega) (show ((n1 : Nat) : Int) ≤ ((4294967295 : Nat) : Int) by omega)) (by kernel_rfl)) ?_
  refine Sg.op (some 9) (by kernel_rfl) (jCall (by kernel_rfl) (rand_any (g + 2) n1 16777176 (by omega) (by omega) (by omega) (by omega) X (n)) (by kernel_rfl)) ?_
  refine Sg.op (some 10) (by kernel_rfl) (jBin (op := .add) (a := vf (.int .i64 40)) (b := vi (randN (g + 2) n1 16777176)) (z := .int .i64 ((esiN g n1 : Nat) : Int)) (b_addN 40 (randN (g + 2) n1 16777176) (by omega)) (by kernel_rfl)) ?_
  refine Sg.go 1 (by kernel_rfl) ?_
  refine Sg.done (by kernel_rfl) ?_
  show To Tryz.prog 12 [1, 1] _ _ _ _
  refine To.ret (by kernel_rfl) ?_
  exact ⟨.inr rfl, _, by kernel_rfl, X, _, s0, hm0, rfl⟩
theorem osym_pure {X : Heap} {n : Nat} {o B N M b x : Nat} (data : List Nat) (bl : List (Nat × List (List Nat))) (hS : ShOk B N M) (hb8 : B8 data) (hO : ObjV X o B N M bl) (hbl : bl.length = blkS B N M) (hA : BlAll data B N M bl) (hb : b < blkS B N M) (hp : PartsOk (kS B N M b) x) (hx : x < 16777216) (ht : Top X n) : PureC 14 [vf (.ptr (o) (0)), vf (.int .i64 ((b : Nat) : Int)), vf (.int .i64 ((x : Nat) : Int))] X n fun v X' => ∃ g d, v = .tup [.f g, .f (.int .i64 0)] ∧ Own N bl ⟨b, x, d⟩ ∧ RowV X' g d ∧ Rw N d := by
  refine PureC.of_to (by kernel_rfl) ?_
  have s0 := Sep.ini ht
  have hm0 : Mono X X := Mono.rfl
  have hN0 := hS.n1
  have hN20 := hS.n2
  have hbp := blk_pos hS
  obtain ⟨ao, fs0, hO, hr, hA2⟩ := hO
  have hfl : fs0.length = bl.length := hA2.length.symm
  obtain ⟨q, hbi⟩ : ∃ q, bl[b]? = some q := ⟨_, List.getElem?_eq_getElem (by omega)⟩
  obtain ⟨k, cs⟩ := q
  obtain ⟨f0, hx0, bb, rfl, hBv⟩ := hA2.atR hbi
  have hq2 := hA b _ hbi
  have hcs := hq2.mx hb8
  have hk : k = kS B N M b := hq2.1
  have hkb := (kS_all hS).2.2 b hb
  have h1 : 1 ≤ k := by omega
  have h8 : k ≤ 8 := by omega
  have hpk : PartsOk k x := by rw [hk]; exact hp
  obtain ⟨lid, loff, lcap, rfl, hlat⟩ := rowA_sl hr (by omega)
  refine To.seq (by kernel_rfl) ?_
  refine To.region (by kernel_rfl) ?_
  refine Sg.go 2 (by kernel_rfl) ?_
  refine Sg.done (by kernel_rfl) ?_
  show To Tryz.prog 14 [1] _ _ _ _
  refine To.seq (by kernel_rfl) ?_
  refine To.seq (by kernel_rfl) ?_
  refine To.region (by kernel_rfl) ?_
  refine Sg.go 4 (by kernel_rfl) ?_
  refine Sg.op (some 12) (by kernel_rfl) (jBin (b_lssF .i64 (x := ((b : Nat) : Int)) (y := (0 : Int)) (by omega)) (by kernel_rfl)) ?_
  refine Sg.go 6 (by kernel_rfl) ?_
  refine Sg.op (some 19) (by kernel_rfl) (jLoad (off := 3) (x := .sl (lid) (loff) 1 (fs0.length) lcap) (s0.mono _ _ hO) (by kernel_rfl) (by kernel_rfl)) ?_
  refine Sg.op (some 20) (by kernel_rfl) (jLen (l := fs0.length) (by kernel_rfl)) ?_
  refine Sg.op (some 21) (by kernel_rfl) (jBin (b_geqF .i64 (x := ((b : Nat) : Int)) (y := ((fs0.length : Nat) : Int)) (by omega)) (by kernel_rfl)) ?_
  refine Sg.go 1 (by kernel_rfl) ?_
  refine Sg.done (by kernel_rfl) ?_
  show To Tryz.prog 14 [1, 0, 1] _ _ _ _
  refine To.ifF (by kernel_rfl) (by kernel_rfl) ?_
  refine To.skip (by kernel_rfl) ?_
  show To Tryz.prog 14 [1, 1] _ _ _ _
  refine To.seq (by kernel_rfl) ?_
  refine To.region (by kernel_rfl) ?_
  refine Sg.go 3 (by kernel_rfl) ?_
  refine Sg.op (some 26) (by kernel_rfl) (jLoad (off := 3) (x := .sl (lid) (loff) 1 (fs0.length) lcap) (s0.mono _ _ hO) (by kernel_rfl) (by kernel_rfl)) ?_
  refine Sg.go 1 (by kernel_rfl) ?_
  refine Sg.op (some 28) (by kernel_rfl) (jIdx (id := lid) (off := loff) (sz := 1) (len := fs0.length) (k := b) (by omega) (by kernel_rfl)) ?_
  refine Sg.op (some 29) (by kernel_rfl) (jLoadX (id := lid) (off := loff + b * 1) (x := .ptr bb 0) (by rw [Nat.mul_one]; exact (hlat b _ hx0).mono (s0.mono _)) (by kernel_rfl)) ?_
  refine Sg.go 1 (by kernel_rfl) ?_
  obtain ⟨_, X1, n2, hc3, hm4, ht5, ⟨g, rfl, hg⟩⟩ := (symbol_pure cs h1 h8 hpk hx hBv hcs hN0 (by omega) s0.topX : PureC 26 [vf (.ptr (bb) (0)), vf (.int .i64 ((x : Nat) : Int))] X (n) _)
  obtain ⟨H6, hc7, s8⟩ := s0.call hc3 hm4 ht5
  have f9 := hm4 _ _ hO
  have hm0 := hm0.tr hm4
  have hBv := hBv.mono hm4
  refine Sg.op (some 31) (by kernel_rfl) (jCall (by kernel_rfl) hc7 (by kernel_rfl)) ?_
  refine Sg.go 4 (by kernel_rfl) ?_
  refine Sg.done (by kernel_rfl) ?_
  show To Tryz.prog 14 [1, 1, 1] _ _ _ _
  refine To.ret (by kernel_rfl) ?_
  exact ⟨.inr rfl, _, by kernel_rfl, X1, _, s8, hm0, _, _, rfl, ⟨_, hbi, rfl⟩, hg, comb_rw (ones_rw _ _).2 hcs.2⟩
theorem same_pure {X : Heap} {n : Nat} {B N M b x : Nat} {g g2 : F} (d : List Nat) (hg : RowV X g d) (hg2 : RowV X g2 d) (ht : Top X n) : PureC 15 [.u (.agg [.int .i64 1, .int .i64 1, .int .i64 ((B : Nat) : Int), .int .i64 ((N : Nat) : Int), .int .i64 ((M : Nat) : Int), .int .i64 ((b : Nat) : Int), .int .i64 ((x : Nat) : Int), .bool false, .int .i64 90, g]), .u (.agg [.int .i64 1, .int .i64 1, .int .i64 ((B : Nat) : Int), .int .i64 ((N : Nat) : Int), .int .i64 ((M : Nat) : Int), .int .i64 ((b : Nat) : Int), .int .i64 ((x : Nat) : Int), .bool false, .int .i64 90, g2])] X n fun v X' => v = vf (.bool true) := by
  refine PureC.of_to (by kernel_rfl) ?_
  have s0 := Sep.ini ht
  have hm0 : Mono X X := Mono.rfl
  refine To.seq (by kernel_rfl) ?_
  refine To.region (by kernel_rfl) ?_
  obtain ⟨H10, s11, J12⟩ := jNewM s0 (.cells [.int .i64 1, .int .i64 1, .int .i64 ((B : Nat) : Int), .int .i64 ((N : Nat) : Int), .int .i64 ((M : Nat) : Int), .int .i64 ((b : Nat) : Int), .int .i64 ((x : Nat) : Int), .bool false, .int .i64 90, g] true)
  refine Sg.op (some 2) (by kernel_rfl) (J12 _ _ (vf (.ptr (n) (0))) (by kernel_rfl)) ?_
  obtain ⟨H13, s14, J15⟩ := jNewM s11 (.cells [.int .i64 1, .int .i64 1, .int .i64 ((B : Nat) : Int), .int .i64 ((N : Nat) : Int), .int .i64 ((M : Nat) : Int), .int .i64 ((b : Nat) : Int), .int .i64 ((x : Nat) : Int), .bool false, .int .i64 90, g2] true)
  refine Sg.op (some 3) (by kernel_rfl) (J15 _ _ (vf (.ptr (n + 1) (0))) (by kernel_rfl)) ?_
  refine Sg.go 1 (by kernel_rfl) ?_
  refine Sg.done (by kernel_rfl) ?_
  show To Tryz.prog 15 [1] _ _ _ _
  refine To.seq (by kernel_rfl) ?_
  refine To.region (by kernel_rfl) ?_
  refine Sg.go 1 (by kernel_rfl) ?_
  refine Sg.op (some 6) (by kernel_rfl) (jLoadAE (off := 0) (sz := 2) (c := [.int .i64 1, .int .i64 1]) (s14.at 1 rfl) (by simp) rfl (by kernel_rfl)) ?_
  refine Sg.go 1 (by kernel_rfl) ?_
  refine Sg.op (some 8) (by kernel_rfl) (jLoadAE (off := 0) (sz := 2) (c := [.int .i64 1, .int .i64 1]) (s14.at 0 rfl) (by simp) rfl (by kernel_rfl)) ?_
  refine Sg.op (some 9) (by kernel_rfl) (jEqA (e := true) (z := true) (ks := [true, true]) (xs := [.int .i64 1, .int .i64 1]) (ys := [.int .i64 1, .int .i64 1]) (by simp [eqFs]) (by kernel_rfl)) ?_
  refine Sg.go 2 (by kernel_rfl) ?_
  refine Sg.op (some 12) (by kernel_rfl) (jLoadAE (off := 2) (sz := 3) (c := [.int .i64 ((B : Nat) : Int), .int .i64 ((N : Nat) : Int), .int .i64 ((M : Nat) : Int)]) (s14.at 1 rfl) (by simp) rfl (by kernel_rfl)) ?_
  refine Sg.go 1 (by kernel_rfl) ?_
  refine Sg.op (some 14) (by kernel_rfl) (jLoadAE (off := 2) (sz := 3) (c := [.int .i64 ((B : Nat) : Int), .int .i64 ((N : Nat) : Int), .int .i64 ((M : Nat) : Int)]) (s14.at 0 rfl) (by simp) rfl (by kernel_rfl)) ?_
  refine Sg.op (some 15) (by kernel_rfl) (jEqA (e := true) (z := true) (ks := [true, true, true]) (xs := [.int .i64 ((B : Nat) : Int), .int .i64 ((N : Nat) : Int), .int .i64 ((M : Nat) : Int)]) (ys := [.int .i64 ((B : Nat) : Int), .int .i64 ((N : Nat) : Int), .int .i64 ((M : Nat) : Int)]) (by simp [eqFs]) (by kernel_rfl)) ?_
  refine Sg.go 3 (by kernel_rfl) ?_
  refine Sg.op (some 19) (by kernel_rfl) (jLoad (off := 5) (x := .int .i64 ((b : Nat) : Int)) (s14.at 1 rfl) (by kernel_rfl) (by kernel_rfl)) ?_
  refine Sg.go 1 (by kernel_rfl) ?_
  refine Sg.op (some 21) (by kernel_rfl) (jLoad (off := 5) (x := .int .i64 ((b : Nat) : Int)) (s14.at 0 rfl) (by kernel_rfl) (by kernel_rfl)) ?_
  refine Sg.op (some 22) (by kernel_rfl) (jBin (b_eqlT .i64 (x := ((b : Nat) : Int)) (y := ((b : Nat) : Int)) (by omega)) (by kernel_rfl)) ?_
  refine Sg.go 3 (by kernel_rfl) ?_
  refine Sg.op (some 26) (by kernel_rfl) (jLoad (off := 6) (x := .int .i64 ((x : Nat) : Int)) (s14.at 1 rfl) (by kernel_rfl) (by kernel_rfl)) ?_
  refine Sg.go 1 (by kernel_rfl) ?_
  refine Sg.op (some 28) (by kernel_rfl) (jLoad (off := 6) (x := .int .i64 ((x : Nat) : Int)) (s14.at 0 rfl) (by kernel_rfl) (by kernel_rfl)) ?_
  refine Sg.op (some 29) (by kernel_rfl) (jBin (b_eqlT .i64 (x := ((x : Nat) : Int)) (y := ((x : Nat) : Int)) (by omega)) (by kernel_rfl)) ?_
  refine Sg.go 3 (by kernel_rfl) ?_
  refine Sg.op (some 33) (by kernel_rfl) (jLoad (off := 7) (x := .bool false) (s14.at 1 rfl) (by kernel_rfl) (by kernel_rfl)) ?_
  refine Sg.go 1 (by kernel_rfl) ?_
  refine Sg.op (some 35) (by kernel_rfl) (jLoad (off := 7) (x := .bool false) (s14.at 0 rfl) (by kernel_rfl) (by kernel_rfl)) ?_
  refine Sg.go 4 (by kernel_rfl) ?_
  refine Sg.op (some 40) (by kernel_rfl) (jLoad (off := 8) (x := .int .i64 90) (s14.at 1 rfl) (by kernel_rfl) (by kernel_rfl)) ?_
  refine Sg.go 1 (by kernel_rfl) ?_
  refine Sg.op (some 42) (by kernel_rfl) (jLoad (off := 8) (x := .int .i64 90) (s14.at 0 rfl) (by kernel_rfl) (by kernel_rfl)) ?_
  refine Sg.op (some 43) (by kernel_rfl) (jBin (b_eqlT .i64 (x := (90 : Int)) (y := (90 : Int)) (by omega)) (by kernel_rfl)) ?_
  refine Sg.go 3 (by kernel_rfl) ?_
  refine Sg.op (some 47) (by kernel_rfl) (jLoad (off := 9) (x := g) (s14.at 1 rfl) (by kernel_rfl) (by kernel_rfl)) ?_
  refine Sg.op (some 48) (by kernel_rfl) (jStr (rowA_mono s14.mono hg.1) (by kernel_rfl)) ?_
  refine Sg.go 1 (by kernel_rfl) ?_
  refine Sg.op (some 50) (by kernel_rfl) (jLoad (off := 9) (x := g2) (s14.at 0 rfl) (by kernel_rfl) (by kernel_rfl)) ?_
  refine Sg.op (some 51) (by kernel_rfl) (jStr (rowA_mono s14.mono hg2.1) (by kernel_rfl)) ?_
  refine Sg.op (some 52) (by kernel_rfl) (jEqS (a := chars d) (b := chars d) rfl (by kernel_rfl)) ?_
  refine Sg.go 2 (by kernel_rfl) ?_
  refine Sg.done (by kernel_rfl) ?_
  show To Tryz.prog 15 [1, 1] _ _ _ _
  refine To.ret (by kernel_rfl) ?_
  exact ⟨.inr rfl, _, by kernel_rfl, X, _, s14, hm0, rfl⟩
theorem fresh_pure {X : Heap} {n : Nat} {B N M b x : Nat} {fr : F} (data : List Nat) (bl : List (Nat × List (List Nat))) (rs : List Rc) (hS : ShOk B N M) (hb8 : B8 data) (hB : data.length = B) (hbl : bl.length = blkS B N M) (hA : BlAll data B N M bl) (hr : RecsV B N M X fr rs) (hok : RcOk B N M rs) (how : ∀ r ∈ rs, Own N bl r) (hlt : rs.length < 4000) (hb : b < blkS B N M) (hp : PartsOk (kS B N M b) x) (hx : x < 16777216) (ht : Top X n) : PureC 13 [.u (.agg [.int .i64 1, .int .i64 1]), .u (.agg [.int .i64 ((B : Nat) : Int), .int .i64 ((N : Nat) : Int), .int .i64 ((M : Nat) : Int)]), vf (.int .i64 ((b : Nat) : Int)), vf (.int .i64 ((x : Nat) : Int)), vf (.int .i64 90), vf (fr)] X n fun v X' => (∃ g d, v = .tup [.agg [.int .i64 1, .int .i64 1, .int .i64 ((B : Nat) : Int), .int .i64 ((N : Nat) : Int), .int .i64 ((M : Nat) : Int), .int .i64 ((b : Nat) : Int), .int .i64 ((x : Nat) : Int), .bool false, .int .i64 90, g], .f (.int .i64 0)] ∧ Own N bl ⟨b, x, d⟩ ∧ RowV X' g d ∧ Rw N d) ∨ (v = .tup [.agg [.int .i64 0, .int .i64 0, .int .i64 0, .int .i64 0, .int .i64 0, .int .i64 0, .int .i64 0, .bool false, .int .i64 0, .sl0], .f (.int .i64 4)] ∧ ∃ i, i < blkS B N M ∧ Unsolved (lK (kS B N M i)) N (dL (kS B N M i) (drp rs i)) (dM (kS B N M i) (drp rs i)) (dD (kS B N M i) N (drp rs i))) := by
  refine PureC.of_to (by kernel_rfl) ?_
  have s0 := Sep.ini ht
  have hm0 : Mono X X := Mono.rfl
  refine To.seq (by kernel_rfl) ?_
  refine To.region (by kernel_rfl) ?_
  obtain ⟨H16, s17, J18⟩ := jNewM s0 (.cells [.int .i64 1, .int .i64 1] true)
  refine Sg.op (some 6) (by kernel_rfl) (J18 _ _ (vf (.ptr (n) (0))) (by kernel_rfl)) ?_
  obtain ⟨H19, s20, J21⟩ := jNewM s17 (.cells [.int .i64 ((B : Nat) : Int), .int .i64 ((N : Nat) : Int), .int .i64 ((M : Nat) : Int)] true)
  refine Sg.op (some 7) (by kernel_rfl) (J21 _ _ (vf (.ptr (n + 1) (0))) (by kernel_rfl)) ?_
  obtain ⟨H22, s23, J24⟩ := jNewM s20 (.cells [.int .i64 0, .int .i64 0, .int .i64 0, .int .i64 0, .int .i64 0, .int .i64 0, .int .i64 0, .bool false, .int .i64 0, .sl0] true)
  refine Sg.op (some 12) (by kernel_rfl) (J24 _ _ (vf (.ptr (n + 1 + 1) (0))) (by kernel_rfl)) ?_
  refine Sg.go 1 (by kernel_rfl) ?_
  refine Sg.done (by kernel_rfl) ?_
  show To Tryz.prog 13 [1] _ _ _ _
  refine To.seq (by kernel_rfl) ?_
  refine To.region (by kernel_rfl) ?_
  refine Sg.go 1 (by kernel_rfl) ?_
  refine Sg.done (by kernel_rfl) ?_
  show To Tryz.prog 13 [1, 1] _ _ _ _
  refine To.seq (by kernel_rfl) ?_
  refine To.seq (by kernel_rfl) ?_
  refine To.region (by kernel_rfl) ?_
  refine Sg.go 1 (by kernel_rfl) ?_
  refine Sg.op (some 22) (by kernel_rfl) (jLenV (l := rs.length) (hr.lenA) (by kernel_rfl)) ?_
  refine Sg.go 1 (by kernel_rfl) ?_
  refine Sg.done (by kernel_rfl) ?_
  show To Tryz.prog 13 [1, 0, 1, 1] _ _ _ _
  refine To.block 0 (by kernel_rfl) ?_
  refine To.loop (by kernel_rfl) ?_
  refine ToL.for (rs.length) (fun i A Hq nq => ∃ (Y : Heap) (a : F) (fs : List F), AtL A [(2, vf (.int .i64 ((b : Nat) : Int))), (3, vf (.int .i64 ((x : Nat) : Int))), (4, vf (.int .i64 90)), (6, vf (.ptr (n) (0))), (7, vf (.ptr (n + 1) (0))), (12, vf (.ptr (n + 1 + 1) (0))), (14, vf (a)), (21, vf (fr)), (22, vf (.int .i64 ((rs.length : Nat) : Int))), (23, vf (.int .i64 ((i : Nat) : Int)))] ∧ Sep Y Hq nq ([(n + 1 + 1, .cells [.int .i64 0, .int .i64 0, .int .i64 0, .int .i64 0, .int .i64 0, .int .i64 0, .int .i64 0, .bool false, .int .i64 0, .sl0] true), (n + 1, .cells [.int .i64 ((B : Nat) : Int), .int .i64 ((N : Nat) : Int), .int .i64 ((M : Nat) : Int)] true), (n, .cells [.int .i64 1, .int .i64 1] true)] ++ (accM (a) (fs) ++ [])) ∧ (Mono X Y) ∧ (RecsV B N M Y fr rs) ∧ (AccF 10 a fs) ∧ (Cat (RecV B N M Y) 10 (rs.take i) fs)) ⟨X, .sl0, [], getsL_spec (ts := [2, 3, 4, 6, 7, 12, 14, 21, 22, 23]) (by kernel_rfl), s23, (hm0), (hr), (AccF.nil 10), (rfl)⟩ (fun i A H25 n26 hi hI => ?_) (fun A H25 n26 hI => ?_)
  · skip
    obtain ⟨Y, a, fs, hT, s27, hm0, hr, ha, hc⟩ := hI
    refine To.keep _ ?_ hT.sub
    have hx1 : rs[i]? = some rs[i] := List.getElem?_eq_getElem hi
    obtain ⟨⟨b1, e1, d1⟩, hed⟩ : ∃ x, x = rs[i] := ⟨_, rfl⟩
    rw [← hed] at hx1
    obtain ⟨rid, roff, rcap, all, ex, c, rfl, h2, h3, h4, g, rfl, hR⟩ := hr.at hx1
    have htk : rs.take (i + 1) = rs.take i ++ [⟨b1, e1, d1⟩] := by rw [take_snoc hi, ← hed]
    have hl2 := hc.len
    rw [List.length_take] at hl2
    refine To.seq (by kernel_rfl) ?_
    refine To.region (by kernel_rfl) ?_
    refine Sg.op (some 24) (by kernel_rfl) (jBin (b_lssT .i64 (x := ((i : Nat) : Int)) (y := ((rs.length : Nat) : Int)) (by omega)) (by kernel_rfl)) ?_
    refine Sg.done (by kernel_rfl) ?_
    show To Tryz.prog 13 [1, 0, 0, 1, 0, 1, 1] _ _ _ _
    refine To.seq (by kernel_rfl) ?_
    refine To.ifT (by kernel_rfl) (by kernel_rfl) ?_
    refine To.skip (by kernel_rfl) ?_
    show To Tryz.prog 13 [1, 1, 0, 0, 1, 0, 1, 1] _ _ _ _
    refine To.seq (by kernel_rfl) ?_
    refine To.block 1 (by kernel_rfl) ?_
    refine To.seq (by kernel_rfl) ?_
    refine To.region (by kernel_rfl) ?_
    refine Sg.op (some 25) (by kernel_rfl) (jIdx (id := rid) (off := roff) (sz := 10) (len := rs.length) (k := i) (by omega) (by kernel_rfl)) ?_
    refine Sg.op (some 26) (by kernel_rfl) (jLoadAE (id := rid) (off := roff + i * 10) (sz := 10) (c := [.int .i64 1, .int .i64 1, .int .i64 ((B : Nat) : Int), .int .i64 ((N : Nat) : Int), .int .i64 ((M : Nat) : Int), .int .i64 ((b1 : Nat) : Int), .int .i64 ((e1 : Nat) : Int), .bool false, .int .i64 90, g]) (s27.mono _ _ h2) h3 h4 (by kernel_rfl)) ?_
    obtain ⟨H28, s29, J30⟩ := jNewM s27 (.cells [.int .i64 0, .int .i64 0, .int .i64 0, .int .i64 0, .int .i64 0, .int .i64 0, .int .i64 0, .bool false, .int .i64 0, .sl0] true)
    refine Sg.op (some 16) (by kernel_rfl) (J30 _ _ (vf (.ptr (n26) (0))) (by kernel_rfl)) ?_
    obtain ⟨H31, s32, J33⟩ := jSet (off := 0) (new := [.int .i64 1, .int .i64 1, .int .i64 ((B : Nat) : Int), .int .i64 ((N : Nat) : Int), .int .i64 ((M : Nat) : Int), .int .i64 ((b1 : Nat) : Int), .int .i64 ((e1 : Nat) : Int), .bool false, .int .i64 90, g]) (cs' := [.int .i64 1, .int .i64 1, .int .i64 ((B : Nat) : Int), .int .i64 ((N : Nat) : Int), .int .i64 ((M : Nat) : Int), .int .i64 ((b1 : Nat) : Int), .int .i64 ((e1 : Nat) : Int), .bool false, .int .i64 90, g]) s29 0 rfl (by simp) rfl
    have s32 : Sep Y H31 (n26 + 1) ([(n26, .cells [.int .i64 1, .int .i64 1, .int .i64 ((B : Nat) : Int), .int .i64 ((N : Nat) : Int), .int .i64 ((M : Nat) : Int), .int .i64 ((b1 : Nat) : Int), .int .i64 ((e1 : Nat) : Int), .bool false, .int .i64 90, g] true), (n + 1 + 1, .cells [.int .i64 0, .int .i64 0, .int .i64 0, .int .i64 0, .int .i64 0, .int .i64 0, .int .i64 0, .bool false, .int .i64 0, .sl0] true), (n + 1, .cells [.int .i64 ((B : Nat) : Int), .int .i64 ((N : Nat) : Int), .int .i64 ((M : Nat) : Int)] true), (n, .cells [.int .i64 1, .int .i64 1] true)] ++ (accM (a) (fs) ++ [])) := s32
    refine Sg.op none (by kernel_rfl) (J33 _ _ (by kernel_rfl)) ?_
    refine Sg.done (by kernel_rfl) ?_
    show To Tryz.prog 13 [1, 0, 0, 1, 1, 0, 0, 1, 0, 1, 1] _ _ _ _
    refine To.seq (by kernel_rfl) ?_
    refine To.region (by kernel_rfl) ?_
    refine Sg.go 1 (by kernel_rfl) ?_
    refine Sg.op (some 28) (by kernel_rfl) (jLoadAE (off := 0) (sz := 2) (c := [.int .i64 1, .int .i64 1]) (s32.at 0 rfl) (by simp) rfl (by kernel_rfl)) ?_
    refine Sg.op (some 29) (by kernel_rfl) (jLoadAE (off := 0) (sz := 2) (c := [.int .i64 1, .int .i64 1]) (s32.at 3 rfl) (by simp) rfl (by kernel_rfl)) ?_
    refine Sg.op (some 30) (by kernel_rfl) (jEqA (e := true) (z := true) (ks := [true, true]) (xs := [.int .i64 1, .int .i64 1]) (ys := [.int .i64 1, .int .i64 1]) (by simp [eqFs]) (by kernel_rfl)) ?_
    refine Sg.done (by kernel_rfl) ?_
    show To Tryz.prog 13 [1, 1, 0, 0, 1, 1, 0, 0, 1, 0, 1, 1] _ _ _ _
    refine To.ifT (by kernel_rfl) (by kernel_rfl) ?_
    refine To.region (by kernel_rfl) ?_
    refine Sg.go 1 (by kernel_rfl) ?_
    refine Sg.op (some 32) (by kernel_rfl) (jLoadAE (off := 0) (sz := 10) (c := [.int .i64 1, .int .i64 1, .int .i64 ((B : Nat) : Int), .int .i64 ((N : Nat) : Int), .int .i64 ((M : Nat) : Int), .int .i64 ((b1 : Nat) : Int), .int .i64 ((e1 : Nat) : Int), .bool false, .int .i64 90, g]) (s32.at 0 rfl) (by simp) rfl (by kernel_rfl)) ?_
    obtain ⟨X34, H35, s36, m37, f38, J39⟩ := jNewF s32 (.cells [.int .i64 1, .int .i64 1, .int .i64 ((B : Nat) : Int), .int .i64 ((N : Nat) : Int), .int .i64 ((M : Nat) : Int), .int .i64 ((b1 : Nat) : Int), .int .i64 ((e1 : Nat) : Int), .bool false, .int .i64 90, g] true)
    have hm0 := hm0.tr m37
    have hr := hr.mono RecV.mono m37
    have hc := hc.mono fun _ _ h => h.mono _ _ _ _ m37
    have hR := hR.mono m37
    refine Sg.op (some 33) (by kernel_rfl) (J39 _ _ (vf (.sl (n26 + 1) (0) 10 (1) none)) (by kernel_rfl)) ?_
    obtain ⟨a40, H41, n42, ha43, s44, J45⟩ := jAcc (sz := 10) (bytes := 96) (x := .sl (n26 + 1) (0) 10 (1) none) (fs := fs) (new := [.int .i64 1, .int .i64 1, .int .i64 ((B : Nat) : Int), .int .i64 ((N : Nat) : Int), .int .i64 ((M : Nat) : Int), .int .i64 ((b1 : Nat) : Int), .int .i64 ((e1 : Nat) : Int), .bool false, .int .i64 90, g]) (M1 := [(n26, .cells [.int .i64 1, .int .i64 1, .int .i64 ((B : Nat) : Int), .int .i64 ((N : Nat) : Int), .int .i64 ((M : Nat) : Int), .int .i64 ((b1 : Nat) : Int), .int .i64 ((e1 : Nat) : Int), .bool false, .int .i64 90, g] true), (n + 1 + 1, .cells [.int .i64 0, .int .i64 0, .int .i64 0, .int .i64 0, .int .i64 0, .int .i64 0, .int .i64 0, .bool false, .int .i64 0, .sl0] true), (n + 1, .cells [.int .i64 ((B : Nat) : Int), .int .i64 ((N : Nat) : Int), .int .i64 ((M : Nat) : Int)] true), (n, .cells [.int .i64 1, .int .i64 1] true)]) (M2 := []) s36 ha (row_all (s36.mono _ _ f38) rfl) (rfl) (by omega) (by omega)
    refine Sg.op (some 34) (by kernel_rfl) (J45 _ _ (by kernel_rfl)) ?_
    refine Sg.go 1 (by kernel_rfl) ?_
    refine Sg.done (by kernel_rfl) ?_
    show To Tryz.prog 13 [1, 1, 1, 0, 0, 1, 0, 1, 1] _ _ _ _
    refine To.region (by kernel_rfl) ?_
    refine Sg.op (some 35) (by kernel_rfl) (jBin (b_addN (i) (1) (by omega)) (by kernel_rfl)) ?_
    refine Sg.go 1 (by kernel_rfl) ?_
    refine Sg.done (by kernel_rfl) ?_
    exact .inl ⟨rfl, X34, _, _, getsL_spec (ts := [2, 3, 4, 6, 7, 12, 14, 21, 22, 23]) (by kernel_rfl), (s44.del 0), (hm0), (hr), (ha43), (by rw [htk]; exact hc.snoc ⟨g, rfl, hR⟩ rfl)⟩
  · skip
    obtain ⟨Y, a, fs, hT, s46, hm0, hr, ha, hc⟩ := hI
    refine To.keep _ ?_ hT.sub
    refine To.seq (by kernel_rfl) ?_
    refine To.region (by kernel_rfl) ?_
    refine Sg.op (some 24) (by kernel_rfl) (jBin (b_lssF .i64 (x := (((rs.length) : Nat) : Int)) (y := ((rs.length : Nat) : Int)) (by simp)) (by kernel_rfl)) ?_
    refine Sg.done (by kernel_rfl) ?_
    show To Tryz.prog 13 [1, 0, 0, 1, 0, 1, 1] _ _ _ _
    rw [List.take_length] at hc
    obtain ⟨X47, m48, s49, hrow, hrowk⟩ := Sep.acc (sz := 10) (M1 := [(n + 1 + 1, .cells [.int .i64 0, .int .i64 0, .int .i64 0, .int .i64 0, .int .i64 0, .int .i64 0, .int .i64 0, .bool false, .int .i64 0, .sl0] true), (n + 1, .cells [.int .i64 ((B : Nat) : Int), .int .i64 ((N : Nat) : Int), .int .i64 ((M : Nat) : Int)] true), (n, .cells [.int .i64 1, .int .i64 1] true)]) (M2 := []) (a := a) (fs := fs) (by simpa using s46) ha
    have hm0 := hm0.tr m48
    have hr := hr.mono RecV.mono m48
    have hc := hc.mono fun _ _ h => h.mono _ _ _ _ m48
    have s49 : Sep X47 H25 (n26) [(n + 1 + 1, .cells [.int .i64 0, .int .i64 0, .int .i64 0, .int .i64 0, .int .i64 0, .int .i64 0, .int .i64 0, .bool false, .int .i64 0, .sl0] true), (n + 1, .cells [.int .i64 ((B : Nat) : Int), .int .i64 ((N : Nat) : Int), .int .i64 ((M : Nat) : Int)] true), (n, .cells [.int .i64 1, .int .i64 1] true)] := by simpa using s49
    have hfv : RecsV B N M X47 a rs := SlV.of_acc ha (by omega) hrowk hc
    refine To.seq (by kernel_rfl) ?_
    refine To.ifF (by kernel_rfl) (by kernel_rfl) ?_
    refine To.exit 0 (by kernel_rfl) ?_
    refine ⟨by simp, ?_⟩
    show To Tryz.prog 13 [1, 1, 1] _ _ _ _
    refine To.seq (by kernel_rfl) ?_
    refine To.region (by kernel_rfl) ?_
    refine Sg.op (some 37) (by kernel_rfl) (jLoadAE (off := 0) (sz := 3) (c := [.int .i64 ((B : Nat) : Int), .int .i64 ((N : Nat) : Int), .int .i64 ((M : Nat) : Int)]) (s49.at 1 rfl) (by simp) rfl (by kernel_rfl)) ?_
    refine Sg.go 1 (by kernel_rfl) ?_
    obtain ⟨v, Xq, nq, hc2, hm2, ht2, z, ee, rfl, hz⟩ := decode_pure rs hS hfv hok hlt s49.topX
    rcases hz with ⟨rfl, ql, hql, hD, hz, hzc⟩ | ⟨rfl, rfl, hu⟩
    · skip
      obtain ⟨_, X50, n51, hc52, hm53, ht54, ⟨rfl, rfl⟩⟩ := (PureC.keep hc2 hm2 ht2 : PureC 16 [.u (.agg [.int .i64 ((B : Nat) : Int), .int .i64 ((N : Nat) : Int), .int .i64 ((M : Nat) : Int)]), vf (a)] X47 (n26) _)
      obtain ⟨H55, hc56, s57⟩ := s49.call hc52 hm53 ht54
      have hm0 := hm0.tr hm53
      have hr := hr.mono RecV.mono hm53
      have hc := hc.mono fun _ _ h => h.mono _ _ _ _ hm53
      have hfv := hfv.mono RecV.mono hm53
      refine Sg.op (some 39) (by kernel_rfl) (jCall (by kernel_rfl) hc56 (by kernel_rfl)) ?_
      rw [hD.data hb8 hB hS hbl hA how hok hql] at hz
      refine Sg.go 5 (by kernel_rfl) ?_
      refine Sg.done (by kernel_rfl) ?_
      show To Tryz.prog 13 [1, 1, 1, 1] _ _ _ _
      refine To.seq (by kernel_rfl) ?_
      refine To.seq (by kernel_rfl) ?_
      refine To.region (by kernel_rfl) ?_
      refine Sg.go 1 (by kernel_rfl) ?_
      refine Sg.op (some 43) (by kernel_rfl) (jBin (b_neqF .i64 (x := (0 : Int)) (y := (0 : Int)) (by omega)) (by kernel_rfl)) ?_
      refine Sg.done (by kernel_rfl) ?_
      show To Tryz.prog 13 [1, 0, 1, 1, 1, 1] _ _ _ _
      refine To.ifF (by kernel_rfl) (by kernel_rfl) ?_
      refine To.skip (by kernel_rfl) ?_
      show To Tryz.prog 13 [1, 1, 1, 1, 1] _ _ _ _
      refine To.seq (by kernel_rfl) ?_
      refine To.region (by kernel_rfl) ?_
      refine Sg.op (some 47) (by kernel_rfl) (jLoadAE (off := 0) (sz := 3) (c := [.int .i64 ((B : Nat) : Int), .int .i64 ((N : Nat) : Int), .int .i64 ((M : Nat) : Int)]) (s57.at 1 rfl) (by simp) rfl (by kernel_rfl)) ?_
      refine Sg.go 1 (by kernel_rfl) ?_
      obtain ⟨v, Xr, nr, hc3, hm3, ht3, o2, e2, rfl, ho⟩ := onew_pure data hS hz hB hzc s57.topX
      rcases ho with ⟨rfl, o, bl2, rfl, hO, hbl2, hA2⟩ | ⟨rfl, rfl, i2, hi2, hu2⟩
      · skip
        obtain ⟨_, X58, n59, hc60, hm61, ht62, ⟨rfl, rfl⟩⟩ := (PureC.keep hc3 hm3 ht3 : PureC 8 [.u (.agg [.int .i64 ((B : Nat) : Int), .int .i64 ((N : Nat) : Int), .int .i64 ((M : Nat) : Int)]), vf (z)] X50 (n51) _)
        obtain ⟨H63, hc64, s65⟩ := s57.call hc60 hm61 ht62
        have hm0 := hm0.tr hm61
        have hr := hr.mono RecV.mono hm61
        have hc := hc.mono fun _ _ h => h.mono _ _ _ _ hm61
        have hfv := hfv.mono RecV.mono hm61
        have hz := hz.mono hm61
        refine Sg.op (some 49) (by kernel_rfl) (jCall (by kernel_rfl) hc64 (by kernel_rfl)) ?_
        obtain rfl : bl2 = bl := hA2.one hA hb8 hS hbl2 hbl
        refine Sg.go 5 (by kernel_rfl) ?_
        refine Sg.done (by kernel_rfl) ?_
        show To Tryz.prog 13 [1, 1, 1, 1, 1, 1] _ _ _ _
        refine To.seq (by kernel_rfl) ?_
        refine To.seq (by kernel_rfl) ?_
        refine To.region (by kernel_rfl) ?_
        refine Sg.go 1 (by kernel_rfl) ?_
        refine Sg.op (some 53) (by kernel_rfl) (jBin (b_neqF .i64 (x := (0 : Int)) (y := (0 : Int)) (by omega)) (by kernel_rfl)) ?_
        refine Sg.done (by kernel_rfl) ?_
        show To Tryz.prog 13 [1, 0, 1, 1, 1, 1, 1, 1] _ _ _ _
        refine To.ifF (by kernel_rfl) (by kernel_rfl) ?_
        refine To.skip (by kernel_rfl) ?_
        show To Tryz.prog 13 [1, 1, 1, 1, 1, 1, 1] _ _ _ _
        refine To.seq (by kernel_rfl) ?_
        refine To.region (by kernel_rfl) ?_
        refine Sg.go 3 (by kernel_rfl) ?_
        obtain ⟨_, X66, n67, hc68, hm69, ht70, ⟨g, d, rfl, hown, hg, hrw⟩⟩ := (osym_pure data bl2 hS hb8 hO hbl hA hb hp hx s65.topX : PureC 14 [vf (.ptr (o) (0)), vf (.int .i64 ((b : Nat) : Int)), vf (.int .i64 ((x : Nat) : Int))] X58 (n59) _)
        obtain ⟨H71, hc72, s73⟩ := s65.call hc68 hm69 ht70
        have hm0 := hm0.tr hm69
        have hr := hr.mono RecV.mono hm69
        have hc := hc.mono fun _ _ h => h.mono _ _ _ _ hm69
        have hfv := hfv.mono RecV.mono hm69
        have hz := hz.mono hm69
        have hO := hO.mono hm69
        refine Sg.op (some 60) (by kernel_rfl) (jCall (by kernel_rfl) hc72 (by kernel_rfl)) ?_
        refine Sg.go 5 (by kernel_rfl) ?_
        refine Sg.done (by kernel_rfl) ?_
        show To Tryz.prog 13 [1, 1, 1, 1, 1, 1, 1, 1] _ _ _ _
        refine To.seq (by kernel_rfl) ?_
        refine To.seq (by kernel_rfl) ?_
        refine To.region (by kernel_rfl) ?_
        refine Sg.go 1 (by kernel_rfl) ?_
        refine Sg.op (some 64) (by kernel_rfl) (jBin (b_neqF .i64 (x := (0 : Int)) (y := (0 : Int)) (by omega)) (by kernel_rfl)) ?_
        refine Sg.done (by kernel_rfl) ?_
        show To Tryz.prog 13 [1, 0, 1, 1, 1, 1, 1, 1, 1, 1] _ _ _ _
        refine To.ifF (by kernel_rfl) (by kernel_rfl) ?_
        refine To.skip (by kernel_rfl) ?_
        show To Tryz.prog 13 [1, 1, 1, 1, 1, 1, 1, 1, 1] _ _ _ _
        refine To.seq (by kernel_rfl) ?_
        refine To.region (by kernel_rfl) ?_
        refine Sg.op (some 67) (by kernel_rfl) (jLoadAE (off := 0) (sz := 2) (c := [.int .i64 1, .int .i64 1]) (s73.at 2 rfl) (by simp) rfl (by kernel_rfl)) ?_
        refine Sg.op (some 68) (by kernel_rfl) (jLoadAE (off := 0) (sz := 3) (c := [.int .i64 ((B : Nat) : Int), .int .i64 ((N : Nat) : Int), .int .i64 ((M : Nat) : Int)]) (s73.at 1 rfl) (by simp) rfl (by kernel_rfl)) ?_
        refine Sg.go 5 (by kernel_rfl) ?_
        obtain ⟨H74, s75, J76⟩ := jSet (off := 0) (new := [.int .i64 1, .int .i64 1, .int .i64 ((B : Nat) : Int), .int .i64 ((N : Nat) : Int), .int .i64 ((M : Nat) : Int), .int .i64 ((b : Nat) : Int), .int .i64 ((x : Nat) : Int), .bool false, .int .i64 90, g]) (cs' := [.int .i64 1, .int .i64 1, .int .i64 ((B : Nat) : Int), .int .i64 ((N : Nat) : Int), .int .i64 ((M : Nat) : Int), .int .i64 ((b : Nat) : Int), .int .i64 ((x : Nat) : Int), .bool false, .int .i64 90, g]) s73 0 rfl (by simp) rfl
        have s75 : Sep X66 H74 (n67) [(n + 1 + 1, .cells [.int .i64 1, .int .i64 1, .int .i64 ((B : Nat) : Int), .int .i64 ((N : Nat) : Int), .int .i64 ((M : Nat) : Int), .int .i64 ((b : Nat) : Int), .int .i64 ((x : Nat) : Int), .bool false, .int .i64 90, g] true), (n + 1, .cells [.int .i64 ((B : Nat) : Int), .int .i64 ((N : Nat) : Int), .int .i64 ((M : Nat) : Int)] true), (n, .cells [.int .i64 1, .int .i64 1] true)] := s75
        refine Sg.op none (by kernel_rfl) (J76 _ _ (by kernel_rfl)) ?_
        refine Sg.go 1 (by kernel_rfl) ?_
        refine Sg.done (by kernel_rfl) ?_
        show To Tryz.prog 13 [1, 1, 1, 1, 1, 1, 1, 1, 1, 1] _ _ _ _
        refine To.ret (by kernel_rfl) ?_
        exact ⟨.inr rfl, _, endV13 (by kernel_rfl) (by kernel_rfl) (s75.at 0 rfl) rfl, X66, _, s75, hm0, .inl ⟨g, d, rfl, hown, hg, hrw⟩⟩
      · skip
        exact (hA.no_un hb8 hS hbl hi2 hu2).elim
    · skip
      obtain ⟨_, X77, n78, hc79, hm80, ht81, ⟨rfl, rfl⟩⟩ := (PureC.keep hc2 hm2 ht2 : PureC 16 [.u (.agg [.int .i64 ((B : Nat) : Int), .int .i64 ((N : Nat) : Int), .int .i64 ((M : Nat) : Int)]), vf (a)] X47 (n26) _)
      obtain ⟨H82, hc83, s84⟩ := s49.call hc79 hm80 ht81
      have hm0 := hm0.tr hm80
      have hr := hr.mono RecV.mono hm80
      have hc := hc.mono fun _ _ h => h.mono _ _ _ _ hm80
      have hfv := hfv.mono RecV.mono hm80
      refine Sg.op (some 39) (by kernel_rfl) (jCall (by kernel_rfl) hc83 (by kernel_rfl)) ?_
      refine Sg.go 5 (by kernel_rfl) ?_
      refine Sg.done (by kernel_rfl) ?_
      show To Tryz.prog 13 [1, 1, 1, 1] _ _ _ _
      refine To.seq (by kernel_rfl) ?_
      refine To.seq (by kernel_rfl) ?_
      refine To.region (by kernel_rfl) ?_
      refine Sg.go 1 (by kernel_rfl) ?_
      refine Sg.op (some 43) (by kernel_rfl) (jBin (b_neqT .i64 (x := (4 : Int)) (y := (0 : Int)) (by omega)) (by kernel_rfl)) ?_
      refine Sg.done (by kernel_rfl) ?_
      show To Tryz.prog 13 [1, 0, 1, 1, 1, 1] _ _ _ _
      refine To.ifT (by kernel_rfl) (by kernel_rfl) ?_
      refine To.seq (by kernel_rfl) ?_
      refine To.region (by kernel_rfl) ?_
      refine Sg.go 2 (by kernel_rfl) ?_
      obtain ⟨H85, s86, J87⟩ := jSet (off := 0) (new := [.int .i64 0, .int .i64 0, .int .i64 0, .int .i64 0, .int .i64 0, .int .i64 0, .int .i64 0, .bool false, .int .i64 0, .sl0]) (cs' := [.int .i64 0, .int .i64 0, .int .i64 0, .int .i64 0, .int .i64 0, .int .i64 0, .int .i64 0, .bool false, .int .i64 0, .sl0]) s84 0 rfl (by simp) rfl
      have s86 : Sep X77 H85 (n78) [(n + 1 + 1, .cells [.int .i64 0, .int .i64 0, .int .i64 0, .int .i64 0, .int .i64 0, .int .i64 0, .int .i64 0, .bool false, .int .i64 0, .sl0] true), (n + 1, .cells [.int .i64 ((B : Nat) : Int), .int .i64 ((N : Nat) : Int), .int .i64 ((M : Nat) : Int)] true), (n, .cells [.int .i64 1, .int .i64 1] true)] := s86
      refine Sg.op none (by kernel_rfl) (J87 _ _ (by kernel_rfl)) ?_
      refine Sg.go 1 (by kernel_rfl) ?_
      refine Sg.done (by kernel_rfl) ?_
      show To Tryz.prog 13 [1, 0, 1, 0, 1, 1, 1, 1] _ _ _ _
      refine To.ret (by kernel_rfl) ?_
      exact ⟨.inr rfl, _, endV13 (by kernel_rfl) (by kernel_rfl) (s86.at 0 rfl) rfl, X77, _, s86, hm0, .inr ⟨rfl, hu⟩⟩
end Go.Proofs.YtkimkgbppegkhaaGreat.Cm
