/- The clean machine's walks of decoding: blocks joined, an object decoded. -/
import Derived.Test.YtkimkgbppegkhaaGreatGn
namespace Go.Proofs.YtkimkgbppegkhaaGreat.Cm
open Go Go.RowKit Go.Proofs.YtkimkgbppegkhaaGreat.Gf
set_option maxRecDepth 1000000
section
variable {P : Program} {H : Heap} {n : Nat} {o : Oper} {r : Operand → Option V}
noncomputable def sl3K (P : Program) (o : Oper) (r : Operand → Option V) : Option (F × Nat × Nat × Nat) := match o.op with
  | .slice t x none hi mx => match r x, optNat r hi, optNat r mx with
    | some (.u (.f x)), some (some hi), some (some mx) => match P.underlying t with
      | some (.slice e) => match sizeT P e with
        | some sz => some (x, sz, hi, mx)
        | none => none
      | _ => none
    | _, _, _ => none
  | _ => none
theorem jSlice3 {id off sz len L h : Nat} (hL : (H id).bind sizeO = some L) (hhL : off + h * sz ≤ L) (hsz : 0 < sz) (hk : sl3K P o r = some (.sl id off sz len none, sz, h, h)) : OpJ P o r H n (vf (.sl id (off + 0 * sz) sz (h - 0) (some (h - 0)))) H n := by
  unfold sl3K at hk
  split at hk
  · rename_i t x hi' mx' ho
    split at hk
    · rename_i x' hi2 mx2 h1 h2 h3
      split at hk
      · rename_i e hu
        split at hk
        · rename_i sz' hsz'
          cases hk
          have hlo : optNat r none = some none := rfl
          refine .prim (vf (.sl id (off + 0 * sz) sz (h - 0) (some (h - 0))), [], 0) ?_
          have hcut : cutA len ((none : Option Nat).getD ((L - off) / sz)) none none (some h) (some h) = some (0, h, some h) := by
            simp only [cutA, Option.getD_none]
            rw [if_pos ⟨(Nat.le_div_iff_mul_le hsz).2 (by omega), Nat.le_refl _, Nat.zero_le _⟩]
          simp only [ho, stepOp, h1, h2, h3, hlo, hu, hsz', hL, hcut]
          rw [if_pos ⟨trivial, hsz, by omega⟩]
          rfl
        · cases hk
      · cases hk
    · cases hk
  · cases hk
end
theorem bs_app (l k : List Nat) : bs (l ++ k) = bs l ++ bs k := by simp [bs]
theorem RowV.of_bs {X : Heap} {f : F} {l : List Nat} (h : rowA X 1 f = some (bs l)) (hb : B8 l) (hl : l.length ≤ 140737488355328) : RowV X f l := ⟨h, hb, hl⟩
theorem flat_b8 {N : Nat} {rs : List (List Nat)} (h : ∀ r ∈ rs, Rw N r) : B8 rs.flatten := fun x hx => by
  obtain ⟨r, hr, hx⟩ := List.mem_flatten.1 hx
  exact (h r hr).2 x hx
theorem flat_len {N : Nat} : ∀ {rs : List (List Nat)}, (∀ r ∈ rs, Rw N r) → rs.flatten.length = rs.length * N
  | [], _ => by simp
  | r :: rs, h => by
    rw [List.flatten_cons, List.length_append, flat_len (fun q hq => h q (by simp [hq])), (h r (by simp)).1, List.length_cons, Nat.add_mul]
    omega
/-- blocks, one behind the other -/
def flatB (bls : List (List (List Nat))) : List Nat := (bls.map List.flatten).flatten
theorem flatB_snoc (bls : List (List (List Nat))) (b : List (List Nat)) : flatB (bls ++ [b]) = flatB bls ++ b.flatten := by simp [flatB]
structure BlksOk (B N M : Nat) (bls : List (List (List Nat))) : Prop where
  len : bls.length = blkS B N M
  mx : ∀ i b, bls[i]? = some b → Mx (kS B N M i) N b
theorem flatB_len {B N M : Nat} {bls : List (List (List Nat))} (h : BlksOk B N M bls) : ∀ i, i ≤ bls.length → (flatB (bls.take i)).length = sumK (symS B N) M i * N
  | 0, _ => by simp [flatB, sumK]
  | i + 1, hi => by
    have hx : bls[i]? = some bls[i] := List.getElem?_eq_getElem (by omega)
    have hm := h.mx i _ hx
    rw [take_snoc (by omega), flatB_snoc, List.length_append, flatB_len h i (by omega), flat_len hm.2, hm.1, sumK, Nat.add_mul]
theorem flatB_b8 {B N M : Nat} {bls : List (List (List Nat))} (h : BlksOk B N M bls) (i : Nat) : B8 (flatB (bls.take i)) := fun x hx => by
  obtain ⟨l, hl, hx⟩ := List.mem_flatten.1 hx
  obtain ⟨b, hb, rfl⟩ := List.mem_map.1 hl
  obtain ⟨j, hj, rfl⟩ := List.mem_iff_getElem.1 (List.mem_of_mem_take hb)
  exact flat_b8 (h.mx j _ (List.getElem?_eq_getElem hj)).2 x hx
theorem flat_snoc {rs : List (List Nat)} {q : Nat} (hq : q < rs.length) : (rs.take (q + 1)).flatten = (rs.take q).flatten ++ rs[q] := by rw [take_snoc hq, List.flatten_append, List.flatten_cons, List.flatten_nil, List.append_nil]

theorem is56 {X : Heap} {n : Nat} {b B N M : Nat} {f : F} (l : List Nat) (hr : RowV X f l) (hb : X b = some (.cells [.int .i64 ((B : Nat) : Int), .int .i64 ((N : Nat) : Int), .int .i64 ((M : Nat) : Int)] true)) (hl : l.length = N) (ht : Top X n) : PureC 56 [vf (f), vf (.ptr (b) (0))] X n fun v X' => v = vf (.bool false) := by
  refine PureC.of_to (by kernel_rfl) ?_
  have s0 := Sep.ini ht
  have hm0 : Mono X X := Mono.rfl
  refine To.seq (by kernel_rfl) ?_
  refine To.region (by kernel_rfl) ?_
  refine Sg.go 1 (by kernel_rfl) ?_
  refine Sg.done (by kernel_rfl) ?_
  show To Tryz.prog 56 [1] _ _ _ _
  refine To.seq (by kernel_rfl) ?_
  refine To.region (by kernel_rfl) ?_
  refine Sg.go 1 (by kernel_rfl) ?_
  refine Sg.op (some 5) (by kernel_rfl) (jLenV (l := l.length) (hr.lenA) (by kernel_rfl)) ?_
  refine Sg.go 1 (by kernel_rfl) ?_
  refine Sg.op (some 7) (by kernel_rfl) (jLoad (off := 1) (x := .int .i64 ((N : Nat) : Int)) (s0.mono _ _ hb) (by kernel_rfl) (by kernel_rfl)) ?_
  refine Sg.op (some 8) (by kernel_rfl) (jBin (b_neqF .i64 (x := ((l.length : Nat) : Int)) (y := ((N : Nat) : Int)) (by omega)) (by kernel_rfl)) ?_
  refine Sg.go 1 (by kernel_rfl) ?_
  refine Sg.done (by kernel_rfl) ?_
  show To Tryz.prog 56 [1, 1] _ _ _ _
  refine To.ret (by kernel_rfl) ?_
  exact ⟨.inr rfl, _, by kernel_rfl, X, _, s0, hm0, rfl⟩
theorem join_pure {X : Heap} {n : Nat} {B N M : Nat} {g : F} (bls : List (List (List Nat))) (h : ShOk B N M) (hg : LstV RowsV X g bls) (hok : BlksOk B N M bls) (ht : Top X n) : PureC 32 [.u (.agg [.int .i64 ((B : Nat) : Int), .int .i64 ((N : Nat) : Int), .int .i64 ((M : Nat) : Int)]), vf (g)] X n fun v X' => ∃ z, v = .tup [.f z, .f (.int .i64 0)] ∧ RowV X' z (((flatB bls).take B).drop 0) ∧ CapOk z := by
  refine PureC.of_to (by kernel_rfl) ?_
  have s0 := Sep.ini ht
  have hm0 : Mono X X := Mono.rfl
  have hbp := blk_pos h
  have hbl := hok.len
  obtain ⟨hb1, hb2, hn1, hn2, hm1, hm2⟩ := id h
  obtain ⟨gs, hr, hG⟩ := hg
  have hgl : gs.length = bls.length := hG.length.symm
  refine To.seq (by kernel_rfl) ?_
  refine To.region (by kernel_rfl) ?_
  obtain ⟨H1, s2, J3⟩ := jNewM s0 (.cells [.int .i64 ((B : Nat) : Int), .int .i64 ((N : Nat) : Int), .int .i64 ((M : Nat) : Int)] true)
  refine Sg.op (some 2) (by kernel_rfl) (J3 _ _ (vf (.ptr (n) (0))) (by kernel_rfl)) ?_
  refine Sg.go 2 (by kernel_rfl) ?_
  refine Sg.done (by kernel_rfl) ?_
  show To Tryz.prog 32 [1] _ _ _ _
  refine To.seq (by kernel_rfl) ?_
  refine To.block 0 (by kernel_rfl) ?_
  refine To.seq (by kernel_rfl) ?_
  refine To.region (by kernel_rfl) ?_
  refine Sg.op (some 12) (by kernel_rfl) (jLoadAE (off := 0) (sz := 3) (c := [.int .i64 ((B : Nat) : Int), .int .i64 ((N : Nat) : Int), .int .i64 ((M : Nat) : Int)]) (s2.at 0 rfl) (by simp) rfl (by kernel_rfl)) ?_
  obtain ⟨_, X4, n5, hc6, hm7, ht8, rfl⟩ := (right_pure h s2.topX : PureC 27 [.u (.agg [.int .i64 ((B : Nat) : Int), .int .i64 ((N : Nat) : Int), .int .i64 ((M : Nat) : Int)])] X (n + 1) _)
  obtain ⟨H9, hc10, s11⟩ := s2.call hc6 hm7 ht8
  have hm0 := hm0.tr hm7
  have hr := rowA_mono hm7 hr
  have hG := hG.mono fun _ _ q => q.mono hm7
  refine Sg.op (some 13) (by kernel_rfl) (jCall (by kernel_rfl) hc10 (by kernel_rfl)) ?_
  refine Sg.go 2 (by kernel_rfl) ?_
  refine Sg.done (by kernel_rfl) ?_
  show To Tryz.prog 32 [1, 0, 0, 1] _ _ _ _
  refine To.ifF (by kernel_rfl) (by kernel_rfl) ?_
  refine To.seq (by kernel_rfl) ?_
  refine To.region (by kernel_rfl) ?_
  refine Sg.go 1 (by kernel_rfl) ?_
  refine Sg.op (some 17) (by kernel_rfl) (jLenV (l := gs.length) (rowA_len1 hr) (by kernel_rfl)) ?_
  refine Sg.op (some 18) (by kernel_rfl) (jLoadAE (off := 0) (sz := 3) (c := [.int .i64 ((B : Nat) : Int), .int .i64 ((N : Nat) : Int), .int .i64 ((M : Nat) : Int)]) (s11.at 0 rfl) (by simp) rfl (by kernel_rfl)) ?_
  obtain ⟨_, X12, n13, hc14, hm15, ht16, rfl⟩ := (blocks_pure h s11.topX : PureC 10 [.u (.agg [.int .i64 ((B : Nat) : Int), .int .i64 ((N : Nat) : Int), .int .i64 ((M : Nat) : Int)])] X4 (n5) _)
  obtain ⟨H17, hc18, s19⟩ := s11.call hc14 hm15 ht16
  have hm0 := hm0.tr hm15
  have hr := rowA_mono hm15 hr
  have hG := hG.mono fun _ _ q => q.mono hm15
  refine Sg.op (some 19) (by kernel_rfl) (jCall (by kernel_rfl) hc18 (by kernel_rfl)) ?_
  refine Sg.op (some 20) (by kernel_rfl) (jBin (b_neqF .i64 (x := ((gs.length : Nat) : Int)) (y := ((blkS B N M : Nat) : Int)) (by omega)) (by kernel_rfl)) ?_
  refine Sg.go 1 (by kernel_rfl) ?_
  refine Sg.done (by kernel_rfl) ?_
  show To Tryz.prog 32 [1, 1, 1, 0, 0, 1] _ _ _ _
  refine To.ifF (by kernel_rfl) (by kernel_rfl) ?_
  refine To.skip (by kernel_rfl) ?_
  show To Tryz.prog 32 [1, 1] _ _ _ _
  refine To.seq (by kernel_rfl) ?_
  refine To.region (by kernel_rfl) ?_
  refine Sg.go 1 (by kernel_rfl) ?_
  refine Sg.done (by kernel_rfl) ?_
  show To Tryz.prog 32 [1, 1, 1] _ _ _ _
  refine To.seq (by kernel_rfl) ?_
  refine To.seq (by kernel_rfl) ?_
  refine To.region (by kernel_rfl) ?_
  refine Sg.go 1 (by kernel_rfl) ?_
  refine Sg.op (some 22) (by kernel_rfl) (jLenV (l := gs.length) (rowA_len1 hr) (by kernel_rfl)) ?_
  refine Sg.go 1 (by kernel_rfl) ?_
  refine Sg.done (by kernel_rfl) ?_
  show To Tryz.prog 32 [1, 0, 1, 1, 1] _ _ _ _
  refine To.block 1 (by kernel_rfl) ?_
  refine To.loop (by kernel_rfl) ?_
  refine ToL.for (gs.length) (fun i A Hq nq => ∃ (Y : Heap) (a : F) (fs : List F), AtL A [(2, vf (.ptr (n) (0))), (6, vf (a)), (21, vf (g)), (22, vf (.int .i64 ((gs.length : Nat) : Int))), (23, vf (.int .i64 ((i : Nat) : Int)))] ∧ Sep Y Hq nq ([(n, .cells [.int .i64 ((B : Nat) : Int), .int .i64 ((N : Nat) : Int), .int .i64 ((M : Nat) : Int)] true)] ++ (accM (a) (fs) ++ [])) ∧ (Mono X Y) ∧ (rowA Y 1 g = some gs) ∧ (All2 (RowsV Y) gs bls) ∧ (AccF 1 a fs) ∧ (fs = bs (flatB (bls.take i))) ∧ (fs.length ≤ i * 200)) ⟨X12, .sl0, [], getsL_spec (ts := [2, 6, 21, 22, 23]) (by kernel_rfl), s19, (hm0), (hr), (hG), (AccF.nil 1), (rfl), (by simp)⟩ (fun i A H20 n21 hi hI => ?_) (fun A H20 n21 hI => ?_)
  · skip
    obtain ⟨Y, a, fs, hT, s22, hm0, hr, hG, ha, hc, hl⟩ := hI
    refine To.keep _ ?_ hT.sub
    have hib : i < bls.length := by omega
    have hib2 : i < blkS B N M := by rw [← hok.len]; exact hib
    have hx : bls[i]? = some bls[i] := List.getElem?_eq_getElem hib
    have hmx := hok.mx i _ hx
    have hml := hmx.1
    have hkb := (kS_all h).2.2 i hib2
    obtain ⟨lf, hlf, hlr⟩ := hG.atR hx
    obtain ⟨lid, loff, lcap, rfl, hlat⟩ := rowA_sl hr (by omega)
    refine To.seq (by kernel_rfl) ?_
    refine To.region (by kernel_rfl) ?_
    refine Sg.op (some 24) (by kernel_rfl) (jBin (b_lssT .i64 (x := ((i : Nat) : Int)) (y := ((gs.length : Nat) : Int)) (by omega)) (by kernel_rfl)) ?_
    refine Sg.done (by kernel_rfl) ?_
    show To Tryz.prog 32 [1, 0, 0, 1, 0, 1, 1, 1] _ _ _ _
    refine To.seq (by kernel_rfl) ?_
    refine To.ifT (by kernel_rfl) (by kernel_rfl) ?_
    refine To.skip (by kernel_rfl) ?_
    show To Tryz.prog 32 [1, 1, 0, 0, 1, 0, 1, 1, 1] _ _ _ _
    refine To.seq (by kernel_rfl) ?_
    refine To.block 2 (by kernel_rfl) ?_
    refine To.seq (by kernel_rfl) ?_
    refine To.region (by kernel_rfl) ?_
    refine Sg.go 1 (by kernel_rfl) ?_
    refine Sg.op (some 26) (by kernel_rfl) (jIdx (id := lid) (off := loff) (sz := 1) (len := gs.length) (k := i) (by omega) (by kernel_rfl)) ?_
    refine Sg.op (some 27) (by kernel_rfl) (jLoadX (id := lid) (off := loff + i * 1) (x := lf) (by rw [Nat.mul_one]; exact (hlat i _ hlf).mono (s22.mono _)) (by kernel_rfl)) ?_
    refine Sg.go 2 (by kernel_rfl) ?_
    refine Sg.done (by kernel_rfl) ?_
    show To Tryz.prog 32 [1, 0, 0, 1, 1, 0, 0, 1, 0, 1, 1, 1] _ _ _ _
    refine To.seq (by kernel_rfl) ?_
    refine To.seq (by kernel_rfl) ?_
    refine To.region (by kernel_rfl) ?_
    refine Sg.go 1 (by kernel_rfl) ?_
    refine Sg.op (some 29) (by kernel_rfl) (jLenV (l := bls[i].length) (hlr.lenA) (by kernel_rfl)) ?_
    refine Sg.op (some 30) (by kernel_rfl) (jLoadAE (off := 0) (sz := 3) (c := [.int .i64 ((B : Nat) : Int), .int .i64 ((N : Nat) : Int), .int .i64 ((M : Nat) : Int)]) (s22.at 0 rfl) (by simp) rfl (by kernel_rfl)) ?_
    refine Sg.go 1 (by kernel_rfl) ?_
    obtain ⟨_, X23, n24, hc25, hm26, ht27, rfl⟩ := (k_pure h hib2 s22.topX : PureC 11 [.u (.agg [.int .i64 ((B : Nat) : Int), .int .i64 ((N : Nat) : Int), .int .i64 ((M : Nat) : Int)]), vf (.int .i64 ((i : Nat) : Int))] Y (n21) _)
    obtain ⟨H28, hc29, s30⟩ := s22.call hc25 hm26 ht27
    have hm0 := hm0.tr hm26
    have hr := rowA_mono hm26 hr
    have hG := hG.mono fun _ _ q => q.mono hm26
    have hlr := hlr.mono hm26
    refine Sg.op (some 32) (by kernel_rfl) (jCall (by kernel_rfl) hc29 (by kernel_rfl)) ?_
    refine Sg.op (some 33) (by kernel_rfl) (jBin (b_neqF .i64 (x := ((bls[i].length : Nat) : Int)) (y := ((kS B N M i : Nat) : Int)) (by omega)) (by kernel_rfl)) ?_
    refine Sg.go 3 (by kernel_rfl) ?_
    obtain ⟨_, H31, n32, hc33, hm34, ht35, rfl⟩ := (((contains43 (g := 56) (caps := [.ptr n 0]) (cs := (hlr.choose)) (fun _ => false) (rowA_mono s30.mono hlr.choose_spec.1) (by rw [← hlr.choose_spec.2.length]; omega) (by kernel_rfl) (fun j x hx' Y' m' hm' ht' => by
        obtain ⟨r, hr1, hr2⟩ := hlr.choose_spec.2.at hx'
        exact is56 r (hr2.mono (s30.mono.tr hm')) (hm' _ _ (s30.at 0 rfl)) (hmx.2 r (List.mem_of_getElem? hr1)).1 ht') s30.top).imp fun v Y h => none_imp h) : PureC 43 [vf (lf), .u (.fn 56 [.ptr (n) (0)])] H28 (n24) _)
    have s36 := s30.callH hc33 hm34 ht35
    refine Sg.op (some 37) (by kernel_rfl) (jCall (by kernel_rfl) hc33 (by kernel_rfl)) ?_
    refine Sg.go 1 (by kernel_rfl) ?_
    refine Sg.done (by kernel_rfl) ?_
    show To Tryz.prog 32 [1, 0, 1, 0, 0, 1, 1, 0, 0, 1, 0, 1, 1, 1] _ _ _ _
    refine To.ifF (by kernel_rfl) (by kernel_rfl) ?_
    refine To.skip (by kernel_rfl) ?_
    show To Tryz.prog 32 [1, 1, 0, 0, 1, 1, 0, 0, 1, 0, 1, 1, 1] _ _ _ _
    refine To.seq (by kernel_rfl) ?_
    refine To.region (by kernel_rfl) ?_
    refine Sg.go 1 (by kernel_rfl) ?_
    refine Sg.op (some 40) (by kernel_rfl) (jLenV (l := bls[i].length) (hlr.lenA) (by kernel_rfl)) ?_
    refine Sg.go 1 (by kernel_rfl) ?_
    refine Sg.done (by kernel_rfl) ?_
    show To Tryz.prog 32 [1, 1, 1, 0, 0, 1, 1, 0, 0, 1, 0, 1, 1, 1] _ _ _ _
    refine To.block 3 (by kernel_rfl) ?_
    refine To.loop (by kernel_rfl) ?_
    refine ToL.for (bls[i].length) (fun q A Hq nq => ∃ (Y : Heap) (a : F) (fs : List F), AtL A [(2, vf (.ptr (n) (0))), (6, vf (a)), (21, vf (.sl (lid) (loff) 1 (gs.length) lcap)), (22, vf (.int .i64 ((gs.length : Nat) : Int))), (23, vf (.int .i64 ((i : Nat) : Int))), (39, vf (lf)), (40, vf (.int .i64 ((bls[i].length : Nat) : Int))), (41, vf (.int .i64 ((q : Nat) : Int)))] ∧ Sep Y Hq nq ([(n, .cells [.int .i64 ((B : Nat) : Int), .int .i64 ((N : Nat) : Int), .int .i64 ((M : Nat) : Int)] true)] ++ (accM (a) (fs) ++ [])) ∧ (Mono X Y) ∧ (rowA Y 1 (.sl lid loff 1 gs.length lcap) = some gs) ∧ (All2 (RowsV Y) gs bls) ∧ (RowsV Y lf bls[i]) ∧ (AccF 1 a fs) ∧ (fs = bs (flatB (bls.take i) ++ (bls[i].take q).flatten)) ∧ (fs.length ≤ i * 200 + q * 20)) ⟨X23, a, fs, getsL_spec (ts := [2, 6, 21, 22, 23, 39, 40, 41]) (by kernel_rfl), s36, (hm0), (hr), (hG), (hlr), (ha), (by rw [hc]; simp), (by omega)⟩ (fun q A H37 n38 hi hI => ?_) (fun A H37 n38 hI => ?_)
    · skip
      obtain ⟨Y, a, fs, hT, s39, hm0, hr, hG, hlr, ha, hc, hl⟩ := hI
      refine To.keep _ ?_ hT.sub
      obtain ⟨rid, roff, rcap, rfs, rfl, hR, hrat⟩ := hlr.sl (by omega)
      obtain ⟨z, hz0, hz1⟩ := hR.nth hi
      have hzr := hmx.2 _ (List.getElem_mem hi)
      refine To.seq (by kernel_rfl) ?_
      refine To.region (by kernel_rfl) ?_
      refine Sg.op (some 42) (by kernel_rfl) (jBin (b_lssT .i64 (x := ((q : Nat) : Int)) (y := ((bls[i].length : Nat) : Int)) (by omega)) (by kernel_rfl)) ?_
      refine Sg.done (by kernel_rfl) ?_
      show To Tryz.prog 32 [1, 0, 0, 1, 1, 1, 0, 0, 1, 1, 0, 0, 1, 0, 1, 1, 1] _ _ _ _
      refine To.seq (by kernel_rfl) ?_
      refine To.ifT (by kernel_rfl) (by kernel_rfl) ?_
      refine To.skip (by kernel_rfl) ?_
      show To Tryz.prog 32 [1, 1, 0, 0, 1, 1, 1, 0, 0, 1, 1, 0, 0, 1, 0, 1, 1, 1] _ _ _ _
      refine To.seq (by kernel_rfl) ?_
      refine To.block 4 (by kernel_rfl) ?_
      refine To.seq (by kernel_rfl) ?_
      refine To.region (by kernel_rfl) ?_
      refine Sg.op (some 43) (by kernel_rfl) (jIdx (id := rid) (off := roff) (sz := 1) (len := bls[i].length) (k := q) (by omega) (by kernel_rfl)) ?_
      refine Sg.op (some 44) (by kernel_rfl) (jLoadX (id := rid) (off := roff + q * 1) (x := z) (by rw [Nat.mul_one]; exact (hrat q z hz0).mono (s39.mono _)) (by kernel_rfl)) ?_
      refine Sg.go 1 (by kernel_rfl) ?_
      refine Sg.done (by kernel_rfl) ?_
      show To Tryz.prog 32 [1, 0, 0, 1, 1, 0, 0, 1, 1, 1, 0, 0, 1, 1, 0, 0, 1, 0, 1, 1, 1] _ _ _ _
      refine To.region (by kernel_rfl) ?_
      refine Sg.go 2 (by kernel_rfl) ?_
      obtain ⟨a40, H41, n42, ha43, s44, J45⟩ := jAcc (sz := 1) (bytes := 1) (x := z) (fs := fs) (new := bs (bls[i][q])) (M1 := [(n, .cells [.int .i64 ((B : Nat) : Int), .int .i64 ((N : Nat) : Int), .int .i64 ((M : Nat) : Int)] true)]) (M2 := []) s39 ha ((hz1.mono s39.mono).1) (hz1.lenA) (by omega) (by rw [hzr.1]; omega)
      refine Sg.op (some 47) (by kernel_rfl) (J45 _ _ (by kernel_rfl)) ?_
      refine Sg.go 1 (by kernel_rfl) ?_
      refine Sg.done (by kernel_rfl) ?_
      show To Tryz.prog 32 [1, 1, 1, 0, 0, 1, 1, 1, 0, 0, 1, 1, 0, 0, 1, 0, 1, 1, 1] _ _ _ _
      refine To.region (by kernel_rfl) ?_
      refine Sg.op (some 48) (by kernel_rfl) (jBin (b_addN (q) (1) (by omega)) (by kernel_rfl)) ?_
      refine Sg.go 1 (by kernel_rfl) ?_
      refine Sg.done (by kernel_rfl) ?_
      exact .inl ⟨rfl, Y, _, _, getsL_spec (ts := [2, 6, 21, 22, 23, 39, 40, 41]) (by kernel_rfl), s44, (hm0), (hr), (hG), (hlr), (ha43), (by rw [hc, flat_snoc hi, ← List.append_assoc, bs_app _ bls[i][q]]), (by rw [List.length_append, bs_len, hzr.1]; omega)⟩
    · skip
      obtain ⟨Y, a, fs, hT, s46, hm0, hr, hG, hlr, ha, hc, hl⟩ := hI
      refine To.keep _ ?_ hT.sub
      refine To.seq (by kernel_rfl) ?_
      refine To.region (by kernel_rfl) ?_
      refine Sg.op (some 42) (by kernel_rfl) (jBin (b_lssF .i64 (x := (((bls[i].length) : Nat) : Int)) (y := ((bls[i].length : Nat) : Int)) (by simp)) (by kernel_rfl)) ?_
      refine Sg.done (by kernel_rfl) ?_
      show To Tryz.prog 32 [1, 0, 0, 1, 1, 1, 0, 0, 1, 1, 0, 0, 1, 0, 1, 1, 1] _ _ _ _
      refine To.seq (by kernel_rfl) ?_
      refine To.ifF (by kernel_rfl) (by kernel_rfl) ?_
      refine To.exit 3 (by kernel_rfl) ?_
      refine ⟨by simp, ?_⟩
      show To Tryz.prog 32 [1, 1, 1, 0, 0, 1, 0, 1, 1, 1] _ _ _ _
      refine To.region (by kernel_rfl) ?_
      refine Sg.op (some 49) (by kernel_rfl) (jBin (b_addN (i) (1) (by omega)) (by kernel_rfl)) ?_
      refine Sg.go 1 (by kernel_rfl) ?_
      refine Sg.done (by kernel_rfl) ?_
      exact .inl ⟨rfl, Y, _, _, getsL_spec (ts := [2, 6, 21, 22, 23]) (by kernel_rfl), s46, (hm0), (hr), (hG), (ha), (by rw [take_snoc hib, flatB_snoc, hc, List.take_length]), (by rw [Nat.add_mul]; omega)⟩
  · skip
    obtain ⟨Y, a, fs, hT, s47, hm0, hr, hG, ha, hc, hl⟩ := hI
    refine To.keep _ ?_ hT.sub
    refine To.seq (by kernel_rfl) ?_
    refine To.region (by kernel_rfl) ?_
    refine Sg.op (some 24) (by kernel_rfl) (jBin (b_lssF .i64 (x := (((gs.length) : Nat) : Int)) (y := ((gs.length : Nat) : Int)) (by simp)) (by kernel_rfl)) ?_
    refine Sg.done (by kernel_rfl) ?_
    show To Tryz.prog 32 [1, 0, 0, 1, 0, 1, 1, 1] _ _ _ _
    have hlen2 : gs.length = bls.length := hG.length.symm
    have hfl := flatB_len hok bls.length (Nat.le_refl _)
    rw [hlen2, List.take_length] at hc
    rw [List.take_length, hok.len, (kS_all h).2.1] at hfl
    have hsl := (sym_le h).2.2
    have hfl2 : fs.length = (flatB bls).length := by rw [hc, bs_len]
    obtain ⟨ka, la, rfl, hla⟩ := ha.some (by omega)
    obtain ⟨X48, m49, s50, hrow, hrowk⟩ := Sep.acc (sz := 1) (M1 := [(n, .cells [.int .i64 ((B : Nat) : Int), .int .i64 ((N : Nat) : Int), .int .i64 ((M : Nat) : Int)] true)]) (M2 := []) (a := .sl ka 0 1 la none) (fs := fs) (by simpa using s47) ha
    have hm0 := hm0.tr m49
    have hr := rowA_mono m49 hr
    have hG := hG.mono fun _ _ q => q.mono m49
    have s50 : Sep X48 H20 (n21) [(n, .cells [.int .i64 ((B : Nat) : Int), .int .i64 ((N : Nat) : Int), .int .i64 ((M : Nat) : Int)] true)] := by simpa using s50
    refine To.seq (by kernel_rfl) ?_
    refine To.ifF (by kernel_rfl) (by kernel_rfl) ?_
    refine To.exit 1 (by kernel_rfl) ?_
    refine ⟨by simp, ?_⟩
    show To Tryz.prog 32 [1, 1, 1, 1] _ _ _ _
    refine To.seq (by kernel_rfl) ?_
    refine To.region (by kernel_rfl) ?_
    refine Sg.go 2 (by kernel_rfl) ?_
    refine Sg.op (some 52) (by kernel_rfl) (jLoad (off := 0) (x := .int .i64 ((B : Nat) : Int)) (s50.at 0 rfl) (by kernel_rfl) (by kernel_rfl)) ?_
    refine Sg.go 1 (by kernel_rfl) ?_
    refine Sg.op (some 54) (by kernel_rfl) (jLoad (off := 0) (x := .int .i64 ((B : Nat) : Int)) (s50.at 0 rfl) (by kernel_rfl) (by kernel_rfl)) ?_
    refine Sg.op (some 55) (by kernel_rfl) (jSlice3 (id := ka) (off := 0) (sz := 1) (len := la) (L := fs.length) (h := B) (by rw [s50.mono _ _ (hrowk _ _ _ _ _ rfl)]; rfl) (by omega) (by omega) (by kernel_rfl)) ?_
    refine Sg.go 2 (by kernel_rfl) ?_
    refine Sg.done (by kernel_rfl) ?_
    show To Tryz.prog 32 [1, 1, 1, 1, 1] _ _ _ _
    refine To.ret (by kernel_rfl) ?_
    exact ⟨.inr rfl, _, by kernel_rfl, X48, _, s50, hm0, _, rfl, (RowV.of_bs (by rw [hrow, hc]) (by have := flatB_b8 hok bls.length; rw [List.take_length] at this; exact this) (by omega)).cut (cap' := some (B - 0)) (l := 0) (h := B) (by omega) (by omega), Nat.le_refl _⟩
/-- the symbols of a block, among records -/
def drp (rs : List Rc) (i : Nat) : List (Nat × List Nat) := (rs.filter fun r => r.b == i).map fun r => (r.e, r.d)
theorem drp_snoc (rs : List Rc) (r : Rc) (i : Nat) : drp (rs ++ [r]) i = if r.b = i then drp rs i ++ [(r.e, r.d)] else drp rs i := by
  unfold drp
  rw [List.filter_append, List.map_append]
  by_cases h : r.b = i
  · rw [if_pos h]; simp [h]
  · rw [if_neg h]; simp [h]
theorem drp_mem {rs : List Rc} {i : Nat} {p : Nat × List Nat} (h : p ∈ drp rs i) : ∃ r ∈ rs, r.b = i ∧ p = (r.e, r.d) := by
  unfold drp at h
  obtain ⟨r, hr, rfl⟩ := List.mem_map.1 h
  rw [List.mem_filter] at hr
  exact ⟨r, hr.1, by simpa using hr.2, rfl⟩
theorem drp_len (rs : List Rc) (i : Nat) : (drp rs i).length ≤ rs.length := by
  unfold drp
  rw [List.length_map]
  exact List.length_filter_le _ _
/-- what decoding a block is about -/
noncomputable abbrev dM (k : Nat) (l : List (Nat × List Nat)) : List (List Nat) := matK k ((dd l).map (·.1))
abbrev dD (k N : Nat) (l : List (Nat × List Nat)) : List (List Nat) := besK k N ((dd l).map (·.2))
abbrev dL (k : Nat) (l : List (Nat × List Nat)) : Nat := sK k + 2 + ((dd l).map (·.1)).length
noncomputable abbrev decR (N : Nat) (q : Nat × List (List Nat)) : List (List Nat) := (List.range q.1).map fun e => comb N (rowE q.1 e) q.2
/-- a block is decoded -/
def DcS (rs : List Rc) (B N M i : Nat) (q : Nat × List (List Nat)) : Prop := q.1 = kS B N M i ∧ Solved (lK q.1) N (dL q.1 (drp rs i)) (dM q.1 (drp rs i)) (dD q.1 N (drp rs i)) q.2
def DcAll (rs : List Rc) (B N M : Nat) (ql : List (Nat × List (List Nat))) : Prop := ∀ i q, ql[i]? = some q → DcS rs B N M i q
theorem DcAll.snoc {rs : List Rc} {B N M : Nat} {ql : List (Nat × List (List Nat))} (h : DcAll rs B N M ql) {q : Nat × List (List Nat)} (hq : DcS rs B N M ql.length q) : DcAll rs B N M (ql ++ [q]) := fun i x hx => by
  rcases Nat.lt_trichotomy i ql.length with h1 | h1 | h1
  · rw [List.getElem?_append_left h1] at hx; exact h i x hx
  · subst h1
    simp at hx
    subst hx
    exact hq
  · rw [List.getElem?_eq_none (by simp; omega)] at hx; cases hx
/-- records that may be an object's -/
def RcOk (B N M : Nat) (rs : List Rc) : Prop := ∀ r ∈ rs, PartsOk (kS B N M r.b) r.e ∧ r.e < 16777216 ∧ Rw N r.d
theorem DcS.mx {rs : List Rc} {B N M i : Nat} {q : Nat × List (List Nat)} (hok : RcOk B N M rs) (h : DcS rs B N M i q) : Mx (lK q.1) N q.2 := by
  have := h.2.mx (besK_mx (k := q.1) (dd_mx fun p hp => by
    obtain ⟨r, hr, _, rfl⟩ := drp_mem hp
    exact (hok r hr).2.2))
  exact ⟨this.1, this.2⟩
theorem comb_mx {k N : Nat} {cs : List (List Nat)} (hc : Mx (lK k) N cs) : Mx k N ((List.range k).map fun e => comb N (rowE k e) cs) := ⟨by simp, fun r hr => by
  obtain ⟨e, _, rfl⟩ := List.mem_map.1 hr
  exact comb_rw (ones_rw _ _).2 hc.2⟩
theorem decode_pure {X : Heap} {n : Nat} {B N M : Nat} {fr : F} (rs : List Rc) (h : ShOk B N M) (hr : RecsV B N M X fr rs) (hok : RcOk B N M rs) (hlt : rs.length < 4000) (ht : Top X n) : PureC 16 [.u (.agg [.int .i64 ((B : Nat) : Int), .int .i64 ((N : Nat) : Int), .int .i64 ((M : Nat) : Int)]), vf (fr)] X n fun v X' => ∃ g e, v = .tup [.f g, .f (.int .i64 e)] ∧ ((e = 0 ∧ ∃ ql, ql.length = blkS B N M ∧ DcAll rs B N M ql ∧ RowV X' g ((flatB (ql.map (decR N))).take B) ∧ CapOk g) ∨ (e = 4 ∧ g = .sl0 ∧ ∃ i, i < blkS B N M ∧ Unsolved (lK (kS B N M i)) N (dL (kS B N M i) (drp rs i)) (dM (kS B N M i) (drp rs i)) (dD (kS B N M i) N (drp rs i)))) := by
  refine PureC.of_to (by kernel_rfl) ?_
  have s0 := Sep.ini ht
  have hm0 : Mono X X := Mono.rfl
  have hbp := blk_pos h
  have hN0 := h.n1
  have hN20 := h.n2
  refine To.seq (by kernel_rfl) ?_
  refine To.region (by kernel_rfl) ?_
  obtain ⟨H51, s52, J53⟩ := jNewM s0 (.cells [.int .i64 ((B : Nat) : Int), .int .i64 ((N : Nat) : Int), .int .i64 ((M : Nat) : Int)] true)
  refine Sg.op (some 2) (by kernel_rfl) (J53 _ _ (vf (.ptr (n) (0))) (by kernel_rfl)) ?_
  refine Sg.go 2 (by kernel_rfl) ?_
  refine Sg.done (by kernel_rfl) ?_
  show To Tryz.prog 16 [1] _ _ _ _
  refine To.seq (by kernel_rfl) ?_
  refine To.seq (by kernel_rfl) ?_
  refine To.region (by kernel_rfl) ?_
  refine Sg.op (some 13) (by kernel_rfl) (jLoadAE (off := 0) (sz := 3) (c := [.int .i64 ((B : Nat) : Int), .int .i64 ((N : Nat) : Int), .int .i64 ((M : Nat) : Int)]) (s52.at 0 rfl) (by simp) rfl (by kernel_rfl)) ?_
  obtain ⟨_, X54, n55, hc56, hm57, ht58, rfl⟩ := (right_pure h s52.topX : PureC 27 [.u (.agg [.int .i64 ((B : Nat) : Int), .int .i64 ((N : Nat) : Int), .int .i64 ((M : Nat) : Int)])] X (n + 1) _)
  obtain ⟨H59, hc60, s61⟩ := s52.call hc56 hm57 ht58
  have hm0 := hm0.tr hm57
  have hr := hr.mono RecV.mono hm57
  refine Sg.op (some 14) (by kernel_rfl) (jCall (by kernel_rfl) hc60 (by kernel_rfl)) ?_
  refine Sg.go 1 (by kernel_rfl) ?_
  refine Sg.done (by kernel_rfl) ?_
  show To Tryz.prog 16 [1, 0, 1] _ _ _ _
  refine To.ifF (by kernel_rfl) (by kernel_rfl) ?_
  refine To.skip (by kernel_rfl) ?_
  show To Tryz.prog 16 [1, 1] _ _ _ _
  refine To.seq (by kernel_rfl) ?_
  refine To.region (by kernel_rfl) ?_
  refine Sg.go 1 (by kernel_rfl) ?_
  refine Sg.done (by kernel_rfl) ?_
  show To Tryz.prog 16 [1, 1, 1] _ _ _ _
  refine To.seq (by kernel_rfl) ?_
  refine To.seq (by kernel_rfl) ?_
  refine To.region (by kernel_rfl) ?_
  refine Sg.op (some 16) (by kernel_rfl) (jLoadAE (off := 0) (sz := 3) (c := [.int .i64 ((B : Nat) : Int), .int .i64 ((N : Nat) : Int), .int .i64 ((M : Nat) : Int)]) (s61.at 0 rfl) (by simp) rfl (by kernel_rfl)) ?_
  obtain ⟨_, X62, n63, hc64, hm65, ht66, rfl⟩ := (blocks_pure h s61.topX : PureC 10 [.u (.agg [.int .i64 ((B : Nat) : Int), .int .i64 ((N : Nat) : Int), .int .i64 ((M : Nat) : Int)])] X54 (n55) _)
  obtain ⟨H67, hc68, s69⟩ := s61.call hc64 hm65 ht66
  have hm0 := hm0.tr hm65
  have hr := hr.mono RecV.mono hm65
  refine Sg.op (some 17) (by kernel_rfl) (jCall (by kernel_rfl) hc68 (by kernel_rfl)) ?_
  refine Sg.go 1 (by kernel_rfl) ?_
  refine Sg.done (by kernel_rfl) ?_
  show To Tryz.prog 16 [1, 0, 1, 1, 1] _ _ _ _
  refine To.block 0 (by kernel_rfl) ?_
  refine To.loop (by kernel_rfl) ?_
  refine ToL.for (blkS B N M) (fun i A Hq nq => ∃ (Y : Heap) (a : F) (fs : List F) (ql : List (Nat × List (List Nat))), AtL A [(1, vf (fr)), (2, vf (.ptr (n) (0))), (6, vf (a)), (17, vf (.int .i64 ((blkS B N M : Nat) : Int))), (18, vf (.int .i64 ((i : Nat) : Int)))] ∧ Sep Y Hq nq ([(n, .cells [.int .i64 ((B : Nat) : Int), .int .i64 ((N : Nat) : Int), .int .i64 ((M : Nat) : Int)] true)] ++ (accM (a) (fs) ++ [])) ∧ (Mono X Y) ∧ (RecsV B N M Y fr rs) ∧ (AccF 1 a fs) ∧ (All2 (RowsV Y) fs (ql.map (decR N))) ∧ (ql.length = i) ∧ (DcAll rs B N M ql)) ⟨X62, .sl0, [], [], getsL_spec (ts := [1, 2, 6, 17, 18]) (by kernel_rfl), s69, (hm0), (hr), (AccF.nil 1), (trivial), (rfl), (fun _ _ h => by simp at h)⟩ (fun i A H70 n71 hi hI => ?_) (fun A H70 n71 hI => ?_)
  · skip
    obtain ⟨Y, a, fs, ql, hT, s72, hm0, hr, ha, hA, hql, hD⟩ := hI
    refine To.keep _ ?_ hT.sub
    have hkb := (kS_all h).2.2 i hi
    refine To.seq (by kernel_rfl) ?_
    refine To.region (by kernel_rfl) ?_
    refine Sg.op (some 19) (by kernel_rfl) (jBin (b_lssT .i64 (x := ((i : Nat) : Int)) (y := ((blkS B N M : Nat) : Int)) (by omega)) (by kernel_rfl)) ?_
    refine Sg.done (by kernel_rfl) ?_
    show To Tryz.prog 16 [1, 0, 0, 1, 0, 1, 1, 1] _ _ _ _
    refine To.seq (by kernel_rfl) ?_
    refine To.ifT (by kernel_rfl) (by kernel_rfl) ?_
    refine To.skip (by kernel_rfl) ?_
    show To Tryz.prog 16 [1, 1, 0, 0, 1, 0, 1, 1, 1] _ _ _ _
    refine To.seq (by kernel_rfl) ?_
    refine To.block 1 (by kernel_rfl) ?_
    refine To.seq (by kernel_rfl) ?_
    refine To.region (by kernel_rfl) ?_
    refine Sg.go 2 (by kernel_rfl) ?_
    refine Sg.done (by kernel_rfl) ?_
    show To Tryz.prog 16 [1, 0, 0, 1, 1, 0, 0, 1, 0, 1, 1, 1] _ _ _ _
    refine To.seq (by kernel_rfl) ?_
    refine To.region (by kernel_rfl) ?_
    refine Sg.go 1 (by kernel_rfl) ?_
    refine Sg.done (by kernel_rfl) ?_
    show To Tryz.prog 16 [1, 1, 0, 0, 1, 1, 0, 0, 1, 0, 1, 1, 1] _ _ _ _
    refine To.seq (by kernel_rfl) ?_
    refine To.seq (by kernel_rfl) ?_
    refine To.region (by kernel_rfl) ?_
    refine Sg.go 1 (by kernel_rfl) ?_
    refine Sg.op (some 22) (by kernel_rfl) (jLenV (l := rs.length) (hr.lenA) (by kernel_rfl)) ?_
    refine Sg.go 1 (by kernel_rfl) ?_
    refine Sg.done (by kernel_rfl) ?_
    show To Tryz.prog 16 [1, 0, 1, 1, 0, 0, 1, 1, 0, 0, 1, 0, 1, 1, 1] _ _ _ _
    refine To.block 2 (by kernel_rfl) ?_
    refine To.loop (by kernel_rfl) ?_
    refine ToL.for (rs.length) (fun j A Hq nq => ∃ (Y : Heap) (a2 : F) (fs2 : List F), AtL A [(1, vf (fr)), (2, vf (.ptr (n) (0))), (6, vf (a)), (7, vf (.int .i64 ((i : Nat) : Int))), (8, vf (a2)), (17, vf (.int .i64 ((blkS B N M : Nat) : Int))), (18, vf (.int .i64 ((i : Nat) : Int))), (21, vf (fr)), (22, vf (.int .i64 ((rs.length : Nat) : Int))), (23, vf (.int .i64 ((j : Nat) : Int)))] ∧ Sep Y Hq nq ([(n, .cells [.int .i64 ((B : Nat) : Int), .int .i64 ((N : Nat) : Int), .int .i64 ((M : Nat) : Int)] true)] ++ (accM (a) (fs) ++ (accM (a2) (fs2) ++ []))) ∧ (Mono X Y) ∧ (RecsV B N M Y fr rs) ∧ (All2 (RowsV Y) fs (ql.map (decR N))) ∧ (AccF 2 a2 fs2) ∧ (Cat (DrV Y) 2 (drp (rs.take j) i) fs2)) ⟨Y, .sl0, [], getsL_spec (ts := [1, 2, 6, 7, 8, 17, 18, 21, 22, 23]) (by kernel_rfl), s72, (hm0), (hr), (hA), (AccF.nil 2), (rfl)⟩ (fun j A H73 n74 hi hI => ?_) (fun A H73 n74 hI => ?_)
    · skip
      obtain ⟨Y, a2, fs2, hT, s75, hm0, hr, hA, ha2, hc⟩ := hI
      refine To.keep _ ?_ hT.sub
      have hx : rs[j]? = some rs[j] := List.getElem?_eq_getElem hi
      obtain ⟨⟨b, e, d⟩, hed⟩ : ∃ x, x = rs[j] := ⟨_, rfl⟩
      rw [← hed] at hx
      obtain ⟨rid, roff, rcap, all, ex, c, rfl, h2, h3, h4, g, rfl, hR⟩ := hr.at hx
      have htk : rs.take (j + 1) = rs.take j ++ [⟨b, e, d⟩] := by rw [take_snoc hi, ← hed]
      have hdl := drp_len (rs.take j) i
      rw [List.length_take] at hdl
      have hl2 := hc.len
      refine To.seq (by kernel_rfl) ?_
      refine To.region (by kernel_rfl) ?_
      refine Sg.op (some 24) (by kernel_rfl) (jBin (b_lssT .i64 (x := ((j : Nat) : Int)) (y := ((rs.length : Nat) : Int)) (by omega)) (by kernel_rfl)) ?_
      refine Sg.done (by kernel_rfl) ?_
      show To Tryz.prog 16 [1, 0, 0, 1, 0, 1, 1, 0, 0, 1, 1, 0, 0, 1, 0, 1, 1, 1] _ _ _ _
      refine To.seq (by kernel_rfl) ?_
      refine To.ifT (by kernel_rfl) (by kernel_rfl) ?_
      refine To.skip (by kernel_rfl) ?_
      show To Tryz.prog 16 [1, 1, 0, 0, 1, 0, 1, 1, 0, 0, 1, 1, 0, 0, 1, 0, 1, 1, 1] _ _ _ _
      refine To.seq (by kernel_rfl) ?_
      refine To.block 3 (by kernel_rfl) ?_
      refine To.seq (by kernel_rfl) ?_
      refine To.region (by kernel_rfl) ?_
      refine Sg.op (some 25) (by kernel_rfl) (jIdx (id := rid) (off := roff) (sz := 10) (len := rs.length) (k := j) (by omega) (by kernel_rfl)) ?_
      refine Sg.op (some 26) (by kernel_rfl) (jLoadAE (id := rid) (off := roff + j * 10) (sz := 10) (c := [.int .i64 1, .int .i64 1, .int .i64 ((B : Nat) : Int), .int .i64 ((N : Nat) : Int), .int .i64 ((M : Nat) : Int), .int .i64 ((b : Nat) : Int), .int .i64 ((e : Nat) : Int), .bool false, .int .i64 90, g]) (s75.mono _ _ h2) h3 h4 (by kernel_rfl)) ?_
      obtain ⟨H76, s77, J78⟩ := jNewM s75 (.cells [.int .i64 0, .int .i64 0, .int .i64 0, .int .i64 0, .int .i64 0, .int .i64 0, .int .i64 0, .bool false, .int .i64 0, .sl0] true)
      refine Sg.op (some 10) (by kernel_rfl) (J78 _ _ (vf (.ptr (n74) (0))) (by kernel_rfl)) ?_
      obtain ⟨H79, s80, J81⟩ := jSet (off := 0) (new := [.int .i64 1, .int .i64 1, .int .i64 ((B : Nat) : Int), .int .i64 ((N : Nat) : Int), .int .i64 ((M : Nat) : Int), .int .i64 ((b : Nat) : Int), .int .i64 ((e : Nat) : Int), .bool false, .int .i64 90, g]) (cs' := [.int .i64 1, .int .i64 1, .int .i64 ((B : Nat) : Int), .int .i64 ((N : Nat) : Int), .int .i64 ((M : Nat) : Int), .int .i64 ((b : Nat) : Int), .int .i64 ((e : Nat) : Int), .bool false, .int .i64 90, g]) s77 0 rfl (by simp) rfl
      have s80 : Sep Y H79 (n74 + 1) ([(n74, .cells [.int .i64 1, .int .i64 1, .int .i64 ((B : Nat) : Int), .int .i64 ((N : Nat) : Int), .int .i64 ((M : Nat) : Int), .int .i64 ((b : Nat) : Int), .int .i64 ((e : Nat) : Int), .bool false, .int .i64 90, g] true), (n, .cells [.int .i64 ((B : Nat) : Int), .int .i64 ((N : Nat) : Int), .int .i64 ((M : Nat) : Int)] true)] ++ (accM (a) (fs) ++ (accM (a2) (fs2) ++ []))) := s80
      refine Sg.op none (by kernel_rfl) (J81 _ _ (by kernel_rfl)) ?_
      refine Sg.done (by kernel_rfl) ?_
      show To Tryz.prog 16 [1, 0, 0, 1, 1, 0, 0, 1, 0, 1, 1, 0, 0, 1, 1, 0, 0, 1, 0, 1, 1, 1] _ _ _ _
      refine To.seq (by kernel_rfl) ?_
      refine To.region (by kernel_rfl) ?_
      refine Sg.go 1 (by kernel_rfl) ?_
      refine Sg.op (some 28) (by kernel_rfl) (jLoadAE (off := 2) (sz := 3) (c := [.int .i64 ((B : Nat) : Int), .int .i64 ((N : Nat) : Int), .int .i64 ((M : Nat) : Int)]) (s80.at 0 rfl) (by simp) rfl (by kernel_rfl)) ?_
      refine Sg.op (some 29) (by kernel_rfl) (jLoadAE (off := 0) (sz := 3) (c := [.int .i64 ((B : Nat) : Int), .int .i64 ((N : Nat) : Int), .int .i64 ((M : Nat) : Int)]) (s80.at 1 rfl) (by simp) rfl (by kernel_rfl)) ?_
      refine Sg.op (some 30) (by kernel_rfl) (jEqA (e := true) (z := true) (ks := [true, true, true]) (xs := [.int .i64 ((B : Nat) : Int), .int .i64 ((N : Nat) : Int), .int .i64 ((M : Nat) : Int)]) (ys := [.int .i64 ((B : Nat) : Int), .int .i64 ((N : Nat) : Int), .int .i64 ((M : Nat) : Int)]) (by simp [eqFs]) (by kernel_rfl)) ?_
      by_cases hbi : b = i
      · skip
        refine Sg.go 2 (by kernel_rfl) ?_
        refine Sg.op (some 33) (by kernel_rfl) (jLoad (off := 7) (x := .bool false) (s80.at 0 rfl) (by kernel_rfl) (by kernel_rfl)) ?_
        refine Sg.go 4 (by kernel_rfl) ?_
        refine Sg.op (some 38) (by kernel_rfl) (jLoad (off := 5) (x := .int .i64 ((b : Nat) : Int)) (s80.at 0 rfl) (by kernel_rfl) (by kernel_rfl)) ?_
        refine Sg.go 1 (by kernel_rfl) ?_
        refine Sg.op (some 40) (by kernel_rfl) (jBin (b_eqlT .i64 (x := ((b : Nat) : Int)) (y := ((i : Nat) : Int)) (by omega)) (by kernel_rfl)) ?_
        refine Sg.go 1 (by kernel_rfl) ?_
        refine Sg.done (by kernel_rfl) ?_
        show To Tryz.prog 16 [1, 1, 0, 0, 1, 1, 0, 0, 1, 0, 1, 1, 0, 0, 1, 1, 0, 0, 1, 0, 1, 1, 1] _ _ _ _
        refine To.ifT (by kernel_rfl) (by kernel_rfl) ?_
        refine To.region (by kernel_rfl) ?_
        refine Sg.go 2 (by kernel_rfl) ?_
        refine Sg.op (some 44) (by kernel_rfl) (jLoad (off := 6) (x := .int .i64 ((e : Nat) : Int)) (s80.at 0 rfl) (by kernel_rfl) (by kernel_rfl)) ?_
        refine Sg.go 1 (by kernel_rfl) ?_
        refine Sg.op (some 46) (by kernel_rfl) (jLoad (off := 9) (x := g) (s80.at 0 rfl) (by kernel_rfl) (by kernel_rfl)) ?_
        refine Sg.go 1 (by kernel_rfl) ?_
        obtain ⟨X82, H83, s84, m85, f86, J87⟩ := jNewF s80 (.cells [.int .i64 ((e : Nat) : Int), g] true)
        have hm0 := hm0.tr m85
        have hr := hr.mono RecV.mono m85
        have hA := hA.mono fun _ _ q => q.mono m85
        have hc := hc.mono fun _ _ h => h.mono _ _ _ _ m85
        have hR := hR.mono m85
        refine Sg.op (some 48) (by kernel_rfl) (J87 _ _ (vf (.sl (n74 + 1) (0) 2 (1) none)) (by kernel_rfl)) ?_
        obtain ⟨a88, H89, n90, ha91, s92, J93⟩ := jAcc (sz := 2) (bytes := 32) (x := .sl (n74 + 1) (0) 2 (1) none) (fs := fs2) (new := [.int .i64 ((e : Nat) : Int), g]) (M1 := ([(n74, .cells [.int .i64 1, .int .i64 1, .int .i64 ((B : Nat) : Int), .int .i64 ((N : Nat) : Int), .int .i64 ((M : Nat) : Int), .int .i64 ((b : Nat) : Int), .int .i64 ((e : Nat) : Int), .bool false, .int .i64 90, g] true), (n, .cells [.int .i64 ((B : Nat) : Int), .int .i64 ((N : Nat) : Int), .int .i64 ((M : Nat) : Int)] true)] ++ accM (a) (fs))) (M2 := []) (by simpa using s84) ha2 (row_all (s84.mono _ _ f86) rfl) (rfl) (by omega) (by omega)
        have s92 : Sep X82 H89 n90 ([(n74, .cells [.int .i64 1, .int .i64 1, .int .i64 ((B : Nat) : Int), .int .i64 ((N : Nat) : Int), .int .i64 ((M : Nat) : Int), .int .i64 ((b : Nat) : Int), .int .i64 ((e : Nat) : Int), .bool false, .int .i64 90, g] true), (n, .cells [.int .i64 ((B : Nat) : Int), .int .i64 ((N : Nat) : Int), .int .i64 ((M : Nat) : Int)] true)] ++ (accM (a) (fs) ++ (accM (a88) ((fs2 ++ [.int .i64 ((e : Nat) : Int), g])) ++ []))) := by simpa using s92
        refine Sg.op (some 49) (by kernel_rfl) (J93 _ _ (by kernel_rfl)) ?_
        refine Sg.go 1 (by kernel_rfl) ?_
        refine Sg.done (by kernel_rfl) ?_
        show To Tryz.prog 16 [1, 1, 1, 0, 0, 1, 0, 1, 1, 0, 0, 1, 1, 0, 0, 1, 0, 1, 1, 1] _ _ _ _
        refine To.region (by kernel_rfl) ?_
        refine Sg.op (some 50) (by kernel_rfl) (jBin (b_addN (j) (1) (by omega)) (by kernel_rfl)) ?_
        refine Sg.go 1 (by kernel_rfl) ?_
        refine Sg.done (by kernel_rfl) ?_
        exact .inl ⟨rfl, X82, _, _, getsL_spec (ts := [1, 2, 6, 7, 8, 17, 18, 21, 22, 23]) (by kernel_rfl), (s92.del 0), (hm0), (hr), (hA), (ha91), (by rw [htk, drp_snoc, if_pos hbi]; exact hc.snoc ⟨g, rfl, hR⟩ rfl)⟩
      · skip
        refine Sg.go 2 (by kernel_rfl) ?_
        refine Sg.op (some 33) (by kernel_rfl) (jLoad (off := 7) (x := .bool false) (s80.at 0 rfl) (by kernel_rfl) (by kernel_rfl)) ?_
        refine Sg.go 4 (by kernel_rfl) ?_
        refine Sg.op (some 38) (by kernel_rfl) (jLoad (off := 5) (x := .int .i64 ((b : Nat) : Int)) (s80.at 0 rfl) (by kernel_rfl) (by kernel_rfl)) ?_
        refine Sg.go 1 (by kernel_rfl) ?_
        refine Sg.op (some 40) (by kernel_rfl) (jBin (b_eqlF .i64 (x := ((b : Nat) : Int)) (y := ((i : Nat) : Int)) (by omega)) (by kernel_rfl)) ?_
        refine Sg.go 1 (by kernel_rfl) ?_
        refine Sg.done (by kernel_rfl) ?_
        show To Tryz.prog 16 [1, 1, 0, 0, 1, 1, 0, 0, 1, 0, 1, 1, 0, 0, 1, 1, 0, 0, 1, 0, 1, 1, 1] _ _ _ _
        refine To.ifF (by kernel_rfl) (by kernel_rfl) ?_
        refine To.skip (by kernel_rfl) ?_
        show To Tryz.prog 16 [1, 1, 1, 0, 0, 1, 0, 1, 1, 0, 0, 1, 1, 0, 0, 1, 0, 1, 1, 1] _ _ _ _
        refine To.region (by kernel_rfl) ?_
        refine Sg.op (some 50) (by kernel_rfl) (jBin (b_addN (j) (1) (by omega)) (by kernel_rfl)) ?_
        refine Sg.go 1 (by kernel_rfl) ?_
        refine Sg.done (by kernel_rfl) ?_
        exact .inl ⟨rfl, Y, _, _, getsL_spec (ts := [1, 2, 6, 7, 8, 17, 18, 21, 22, 23]) (by kernel_rfl), (s80.del 0), (hm0), (hr), (hA), (ha2), (by rw [htk, drp_snoc, if_neg hbi]; exact hc)⟩
    · skip
      obtain ⟨Y, a2, fs2, hT, s94, hm0, hr, hA, ha2, hc⟩ := hI
      refine To.keep _ ?_ hT.sub
      refine To.seq (by kernel_rfl) ?_
      refine To.region (by kernel_rfl) ?_
      refine Sg.op (some 24) (by kernel_rfl) (jBin (b_lssF .i64 (x := (((rs.length) : Nat) : Int)) (y := ((rs.length : Nat) : Int)) (by simp)) (by kernel_rfl)) ?_
      refine Sg.done (by kernel_rfl) ?_
      show To Tryz.prog 16 [1, 0, 0, 1, 0, 1, 1, 0, 0, 1, 1, 0, 0, 1, 0, 1, 1, 1] _ _ _ _
      rw [List.take_length] at hc
      obtain ⟨X95, m96, s97, hrow2, hrow2k⟩ := Sep.acc (sz := 2) (M1 := ([(n, .cells [.int .i64 ((B : Nat) : Int), .int .i64 ((N : Nat) : Int), .int .i64 ((M : Nat) : Int)] true)] ++ accM (a) (fs))) (M2 := []) (a := a2) (fs := fs2) (by simpa using s94) ha2
      have hm0 := hm0.tr m96
      have hr := hr.mono RecV.mono m96
      have hA := hA.mono fun _ _ q => q.mono m96
      have hc := hc.mono fun _ _ h => h.mono _ _ _ _ m96
      have s97 : Sep X95 H73 (n74) ([(n, .cells [.int .i64 ((B : Nat) : Int), .int .i64 ((N : Nat) : Int), .int .i64 ((M : Nat) : Int)] true)] ++ (accM (a) (fs) ++ [])) := by simpa using s97
      have hdv : DropsV X95 a2 (drp rs i) := SlV.of_acc ha2 (by omega) hrow2k hc
      have hdl := drp_len rs i
      refine To.seq (by kernel_rfl) ?_
      refine To.ifF (by kernel_rfl) (by kernel_rfl) ?_
      refine To.exit 2 (by kernel_rfl) ?_
      refine ⟨by simp, ?_⟩
      show To Tryz.prog 16 [1, 1, 1, 0, 0, 1, 1, 0, 0, 1, 0, 1, 1, 1] _ _ _ _
      refine To.seq (by kernel_rfl) ?_
      refine To.draw [0, 1, 2, 3, 4, 5, 6, 7, 8, 9, 10, 11] progOk (by kernel_rfl) (by kernel_rfl) ?_
      refine Sd.read (some 52) (n) (by kernel_rfl) (by kernel_rfl) (by kernel_rfl) trivial (jLoadAE (off := 0) (sz := 3) (c := [.int .i64 ((B : Nat) : Int), .int .i64 ((N : Nat) : Int), .int .i64 ((M : Nat) : Int)]) (s97.at 0 rfl) (by simp) rfl (by kernel_rfl)) ?_
      refine Sd.go (L := [2, 3, 4, 5, 6, 7, 8, 9, 10, 11]) [1] (by kernel_rfl) ?_
      obtain ⟨_, X98, n99, hc100, hm101, ht102, rfl⟩ := (k_pure h hi s97.topX : PureC 11 [.u (.agg [.int .i64 ((B : Nat) : Int), .int .i64 ((N : Nat) : Int), .int .i64 ((M : Nat) : Int)]), vf (.int .i64 ((i : Nat) : Int))] X95 (n74) _)
      obtain ⟨H103, hc104, s105⟩ := s97.call hc100 hm101 ht102
      have hm0 := hm0.tr hm101
      have hr := hr.mono RecV.mono hm101
      have hA := hA.mono fun _ _ q => q.mono hm101
      have hc := hc.mono fun _ _ h => h.mono _ _ _ _ hm101
      have hdv := hdv.mono DrV.mono hm101
      refine Sd.eff (some 54) (by kernel_rfl) (by kernel_rfl) (jCall (by kernel_rfl) hc104 (by kernel_rfl)) ⟨.inl (by kernel_rfl), trivial⟩ ?_
      refine Sd.go (L := [4, 5, 6, 7, 8, 9, 10, 11]) [3] (by kernel_rfl) ?_
      refine Sd.read (some 56) (n) (by kernel_rfl) (by kernel_rfl) (by kernel_rfl) ⟨.inr ((s97.at 0 rfl).trans (s105.at 0 rfl).symm), trivial⟩ (jLoad (off := 1) (x := .int .i64 ((N : Nat) : Int)) (s105.at 0 rfl) (by kernel_rfl) (by kernel_rfl)) ?_
      refine Sd.go (L := [6, 7, 8, 9, 10, 11]) [5] (by kernel_rfl) ?_
      obtain ⟨_, X106, n107, hc108, hm109, ht110, ⟨z, ee, rfl, hz⟩⟩ := (dblock_pure (drp rs i) hkb.1 hkb.2 hdv (fun p hp => by obtain ⟨r, hr, rfl, rfl⟩ := drp_mem hp; exact hok r hr) (by omega) hN0 (by omega) s105.topX : PureC 31 [vf (.int .i64 ((kS B N M i : Nat) : Int)), vf (.int .i64 ((N : Nat) : Int)), vf (a2)] X98 (n99) _)
      obtain ⟨H111, hc112, s113⟩ := s105.call hc108 hm109 ht110
      have hm0 := hm0.tr hm109
      have hr := hr.mono RecV.mono hm109
      have hA := hA.mono fun _ _ q => q.mono hm109
      have hc := hc.mono fun _ _ h => h.mono _ _ _ _ hm109
      have hdv := hdv.mono DrV.mono hm109
      refine Sd.eff (some 58) (by kernel_rfl) (by kernel_rfl) (jCall (by kernel_rfl) hc112 (by kernel_rfl)) ⟨.inl (by kernel_rfl), .inl (by kernel_rfl), trivial⟩ ?_
      refine Sd.go (L := []) [7, 8, 9, 10, 11] (by kernel_rfl) ?_
      refine Sd.done ?_
      show To Tryz.prog 16 [1, 1, 1, 1, 0, 0, 1, 1, 0, 0, 1, 0, 1, 1, 1] _ _ _ _
      rcases hz with ⟨rfl, cs, hcs, hz⟩ | ⟨rfl, rfl, hz⟩
      · skip
        have hfl := hA.length
        rw [List.length_map] at hfl
        refine To.seq (by kernel_rfl) ?_
        refine To.seq (by kernel_rfl) ?_
        refine To.region (by kernel_rfl) ?_
        refine Sg.go 1 (by kernel_rfl) ?_
        refine Sg.op (some 62) (by kernel_rfl) (jBin (b_neqF .i64 (x := (0 : Int)) (y := (0 : Int)) (by omega)) (by kernel_rfl)) ?_
        refine Sg.done (by kernel_rfl) ?_
        show To Tryz.prog 16 [1, 0, 1, 1, 1, 1, 0, 0, 1, 1, 0, 0, 1, 0, 1, 1, 1] _ _ _ _
        refine To.ifF (by kernel_rfl) (by kernel_rfl) ?_
        refine To.skip (by kernel_rfl) ?_
        show To Tryz.prog 16 [1, 1, 1, 1, 1, 0, 0, 1, 1, 0, 0, 1, 0, 1, 1, 1] _ _ _ _
        refine To.region (by kernel_rfl) ?_
        refine Sg.go 2 (by kernel_rfl) ?_
        obtain ⟨X114, H115, s116, m117, f118, J119⟩ := jNewF s113 (.cells [z] true)
        have hm0 := hm0.tr m117
        have hr := hr.mono RecV.mono m117
        have hA := hA.mono fun _ _ q => q.mono m117
        have hc := hc.mono fun _ _ h => h.mono _ _ _ _ m117
        have hdv := hdv.mono DrV.mono m117
        have hcs := hcs.mono m117
        refine Sg.op (some 66) (by kernel_rfl) (J119 _ _ (vf (.sl (n107) (0) 1 (1) none)) (by kernel_rfl)) ?_
        obtain ⟨a120, H121, n122, ha123, s124, J125⟩ := jAcc (sz := 1) (bytes := 24) (x := .sl (n107) (0) 1 (1) none) (fs := fs) (new := [z]) (M1 := [(n, .cells [.int .i64 ((B : Nat) : Int), .int .i64 ((N : Nat) : Int), .int .i64 ((M : Nat) : Int)] true)]) (M2 := []) s116 ha (row_all (s116.mono _ _ f118) rfl) (rfl) (by omega) (by omega)
        refine Sg.op (some 67) (by kernel_rfl) (J125 _ _ (by kernel_rfl)) ?_
        refine Sg.go 1 (by kernel_rfl) ?_
        refine Sg.done (by kernel_rfl) ?_
        show To Tryz.prog 16 [1, 1, 1, 0, 0, 1, 0, 1, 1, 1] _ _ _ _
        refine To.region (by kernel_rfl) ?_
        refine Sg.op (some 68) (by kernel_rfl) (jBin (b_addN (i) (1) (by omega)) (by kernel_rfl)) ?_
        refine Sg.go 1 (by kernel_rfl) ?_
        refine Sg.done (by kernel_rfl) ?_
        exact .inl ⟨rfl, X114, _, _, ql ++ [(kS B N M i, cs)], getsL_spec (ts := [1, 2, 6, 17, 18]) (by kernel_rfl), s124, (hm0), (hr), (ha123), (by rw [List.map_append]; exact hA.snoc hcs), (by simp [hql]), (hD.snoc ⟨by rw [hql], by rw [hql]; exact hz⟩)⟩
      · skip
        refine To.seq (by kernel_rfl) ?_
        refine To.seq (by kernel_rfl) ?_
        refine To.region (by kernel_rfl) ?_
        refine Sg.go 1 (by kernel_rfl) ?_
        refine Sg.op (some 62) (by kernel_rfl) (jBin (b_neqT .i64 (x := (4 : Int)) (y := (0 : Int)) (by omega)) (by kernel_rfl)) ?_
        refine Sg.done (by kernel_rfl) ?_
        show To Tryz.prog 16 [1, 0, 1, 1, 1, 1, 0, 0, 1, 1, 0, 0, 1, 0, 1, 1, 1] _ _ _ _
        refine To.ifT (by kernel_rfl) (by kernel_rfl) ?_
        refine To.seq (by kernel_rfl) ?_
        refine To.region (by kernel_rfl) ?_
        refine Sg.go 3 (by kernel_rfl) ?_
        refine Sg.done (by kernel_rfl) ?_
        show To Tryz.prog 16 [1, 0, 1, 0, 1, 1, 1, 1, 0, 0, 1, 1, 0, 0, 1, 0, 1, 1, 1] _ _ _ _
        refine To.ret (by kernel_rfl) ?_
        refine .inr ⟨by simp, ?_⟩
        exact ⟨.inr rfl, _, by kernel_rfl, X106, _, s113, hm0, _, _, rfl, .inr ⟨rfl, rfl, i, hi, hz⟩⟩
  · skip
    obtain ⟨Y, a, fs, ql, hT, s126, hm0, hr, ha, hA, hql, hD⟩ := hI
    refine To.keep _ ?_ hT.sub
    refine To.seq (by kernel_rfl) ?_
    refine To.region (by kernel_rfl) ?_
    refine Sg.op (some 19) (by kernel_rfl) (jBin (b_lssF .i64 (x := (((blkS B N M) : Nat) : Int)) (y := ((blkS B N M : Nat) : Int)) (by simp)) (by kernel_rfl)) ?_
    refine Sg.done (by kernel_rfl) ?_
    show To Tryz.prog 16 [1, 0, 0, 1, 0, 1, 1, 1] _ _ _ _
    obtain ⟨X127, m128, s129, hrow, hrowk⟩ := Sep.acc (sz := 1) (M1 := [(n, .cells [.int .i64 ((B : Nat) : Int), .int .i64 ((N : Nat) : Int), .int .i64 ((M : Nat) : Int)] true)]) (M2 := []) (a := a) (fs := fs) (by simpa using s126) ha
    have hm0 := hm0.tr m128
    have hr := hr.mono RecV.mono m128
    have hA := hA.mono fun _ _ q => q.mono m128
    have s129 : Sep X127 H70 (n71) [(n, .cells [.int .i64 ((B : Nat) : Int), .int .i64 ((N : Nat) : Int), .int .i64 ((M : Nat) : Int)] true)] := by simpa using s129
    have hbo : BlksOk B N M (ql.map (decR N)) := ⟨by rw [List.length_map, hql], fun j b hb => by
      rw [List.getElem?_map, Option.map_eq_some_iff] at hb
      obtain ⟨q, hq, rfl⟩ := hb
      have h1 := hD j q hq
      have h2 := comb_mx (h1.mx hok)
      rw [← h1.1]; exact h2⟩
    refine To.seq (by kernel_rfl) ?_
    refine To.ifF (by kernel_rfl) (by kernel_rfl) ?_
    refine To.exit 0 (by kernel_rfl) ?_
    refine ⟨by simp, ?_⟩
    show To Tryz.prog 16 [1, 1, 1, 1] _ _ _ _
    refine To.seq (by kernel_rfl) ?_
    refine To.region (by kernel_rfl) ?_
    refine Sg.op (some 69) (by kernel_rfl) (jLoadAE (off := 0) (sz := 3) (c := [.int .i64 ((B : Nat) : Int), .int .i64 ((N : Nat) : Int), .int .i64 ((M : Nat) : Int)]) (s129.at 0 rfl) (by simp) rfl (by kernel_rfl)) ?_
    refine Sg.go 1 (by kernel_rfl) ?_
    obtain ⟨_, X130, n131, hc132, hm133, ht134, ⟨z, rfl, hz, hzc⟩⟩ := (join_pure (ql.map (decR N)) h ⟨_, hrow, hA⟩ hbo s129.topX : PureC 32 [.u (.agg [.int .i64 ((B : Nat) : Int), .int .i64 ((N : Nat) : Int), .int .i64 ((M : Nat) : Int)]), vf (a)] X127 (n71) _)
    obtain ⟨H135, hc136, s137⟩ := s129.call hc132 hm133 ht134
    have hm0 := hm0.tr hm133
    have hr := hr.mono RecV.mono hm133
    have hA := hA.mono fun _ _ q => q.mono hm133
    have hrow := rowA_mono hm133 hrow
    refine Sg.op (some 71) (by kernel_rfl) (jCall (by kernel_rfl) hc136 (by kernel_rfl)) ?_
    refine Sg.go 4 (by kernel_rfl) ?_
    refine Sg.done (by kernel_rfl) ?_
    show To Tryz.prog 16 [1, 1, 1, 1, 1] _ _ _ _
    refine To.ret (by kernel_rfl) ?_
    exact ⟨.inr rfl, _, by kernel_rfl, X130, _, s137, hm0, _, _, rfl, .inl ⟨rfl, ql, by rw [hql], hD, (by rw [← List.drop_zero (l := List.take _ _)]; exact hz), hzc⟩⟩
end Go.Proofs.YtkimkgbppegkhaaGreat.Cm
