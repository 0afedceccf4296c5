/- The clean machine's walk of TopMore: what tells an object tells the same with more symbols of it. -/
import Derived.Test.YtkimkgbppegkhaaGreatLc
namespace Go.Proofs.YtkimkgbppegkhaaGreat.Cm
open Go Go.RowKit Go.Proofs.YtkimkgbppegkhaaGreat.Gf
set_option maxRecDepth 1000000
section
variable {P : Program} {H : Heap} {n : Nat} {o : Oper} {r : Operand → Option V}
noncomputable def cvK (P : Program) (o : Oper) (r : Operand → Option V) : Option F := match o.op with
  | .convert s d x => match P.underlying s, P.underlying d, r x with
    | some (.slice e), some .string, some (.u (.f x)) => match P.underlying e with
      | some (.int .u8) => some x
      | _ => none
    | _, _, _ => none
  | _ => none
def chars (l : List Nat) : List UInt8 := l.map fun x => UInt8.ofNat x
theorem bytesA_bs : ∀ (l : List Nat), bytesA (bs l) = some (chars l)
  | [] => rfl
  | x :: l => by
    show (match bytesA (bs l) with | some k => some (UInt8.ofNat ((x : Int).toNat) :: k) | none => none) = _
    rw [bytesA_bs l]
    rfl
theorem jStr {x : F} {l : List Nat} (hr : rowA H 1 x = some (bs l)) (hk : cvK P o r = some x) : OpJ P o r H n (vf (.str (chars l))) H n := by
  unfold cvK at hk
  split at hk
  · rename_i s d y ho
    split at hk
    · rename_i e x' h1 h2 h3
      split at hk
      · rename_i h4
        cases hk
        exact .prim (vf (.str (chars l)), [], 0) (by simp only [ho, stepOp, h1, h2, h3, h4, hr, bytesA_bs])
      · cases hk
    · cases hk
  · cases hk
noncomputable def esK (P : Program) (o : Oper) (r : Operand → Option V) : Option (List UInt8 × List UInt8) := match o.op with
  | .binOp .eql t x y _ => match r x, r y, P.underlying t with
    | some (.u (.f (.str a))), some (.u (.f (.str b))), some .string => some (a, b)
    | _, _, _ => none
  | _ => none
theorem jEqS {a b : List UInt8} (h : a = b) (hk : esK P o r = some (a, b)) : OpJ P o r H n (vf (.bool true)) H n := by
  subst h
  unfold esK at hk
  split at hk
  · rename_i t x y t' ho
    split at hk
    · rename_i a' b' h1 h2 h3
      cases hk
      exact .prim (vf (.bool true), [], 0) (by simp only [ho, stepOp, h1, h2, binA, eqA, h3]; simp)
    · cases hk
  · cases hk
end
theorem and1023 (z : Int) : ∃ m : Nat, m ≤ 1023 ∧ ∀ t, binA Tryz.prog .and t (vf (.int .i64 z)) (vf (.int .i64 1023)) = some (.int .i64 ((m : Nat) : Int)) := by
  refine ⟨(BitVec.ofInt 64 z &&& BitVec.ofInt 64 1023).toNat, ?_, fun t => b_bits (.inl rfl) ?_ t⟩
  · rw [BitVec.toNat_and]
    exact Nat.and_le_right
  · rw [bitsA_eq]
    show some (IntKind.i64.wrap ((BitVec.ofInt 64 z &&& BitVec.ofInt 64 1023).toNat : Int)) = _
    have h : (BitVec.ofInt 64 z &&& BitVec.ofInt 64 1023).toNat ≤ 1023 := by
      rw [BitVec.toNat_and]
      exact Nat.and_le_right
    rw [wrap_id (by omega) (by show _ ≤ ((9223372036854775807 : Nat) : Int); omega)]
/-- whole numbers of any sign, as a heap has them -/
def ZsV (H : Heap) (f : F) (zs : List Int) : Prop := Cm.lenA f = some zs.length ∧ (0 < zs.length → rowA H 1 f = some (zs.map fun z => .int .i64 z))
theorem ZsV.mono {X H : Heap} (hm : Mono X H) {f : F} {zs : List Int} (h : ZsV X f zs) : ZsV H f zs := ⟨h.1, fun h0 => rowA_mono hm (h.2 h0)⟩
theorem ZsV.lenA {X : Heap} {f : F} {zs : List Int} (h : ZsV X f zs) : Cm.lenA f = some zs.length := h.1
theorem ZsV.sl {X : Heap} {f : F} {zs : List Int} (h : ZsV X f zs) (h0 : 0 < zs.length) : ∃ id off cap, f = .sl id off 1 zs.length cap ∧ ∀ (i : Nat) z, zs[i]? = some z → atA X id (off + i) (.int .i64 z) := by
  obtain ⟨id, off, cap, h1, h2⟩ := rowA_sl (h.2 h0) (by simpa using h0)
  rw [List.length_map] at h1
  exact ⟨id, off, cap, h1, fun i z hz => h2 i _ (by simp [hz])⟩
theorem PureC.keep {f : Nat} {args : List V} {X X' : Heap} {n n' : Nat} {v : V} (hc : CallsC Tryz.prog f args X n v X' n') (hm : Mono X X') (ht : Top X' n') : PureC f args X n fun u Y => u = v ∧ Y = X' := ⟨_, _, _, hc, hm, ht, rfl, rfl⟩
theorem mem_swap {α : Type} {l : List α} {k : Nat} {a b : α} (h0 : l[0]? = some a) (hk : l[k]? = some b) (r : α) : r ∈ (l.set 0 b).set k a ↔ r ∈ l := by
  have hkl : k < l.length := by
    rcases Nat.lt_or_ge k l.length with h | h
    · exact h
    · rw [List.getElem?_eq_none h] at hk; cases hk
  have h0l : 0 < l.length := by omega
  have hp : ((l.set 0 b).set k a).Perm l := by
    rw [List.getElem?_eq_getElem hkl] at hk
    rw [List.getElem?_eq_getElem h0l] at h0
    cases hk
    cases h0
    exact List.set_set_perm h0l hkl
  exact hp.mem_iff

theorem small_pure {X : Heap} {n : Nat} {fd : F} {sz mo : Int} (data : List Nat) (hd : Cm.lenA fd = some data.length) (ht : Top X n) : PureC 7 [vf (fd), vf (.int .i64 (sz)), vf (.int .i64 (mo))] X n fun v X' => ∃ b, v = vf (.bool b) ∧ (b = true → 1 ≤ data.length ∧ data.length ≤ 60 ∧ 1 ≤ sz ∧ sz ≤ 20 ∧ 1 ≤ mo ∧ mo ≤ 8) := by
  refine PureC.of_to (by kernel_rfl) ?_
  have s0 := Sep.ini ht
  have hm0 : Mono X X := Mono.rfl
  refine To.seq (by kernel_rfl) ?_
  refine To.region (by kernel_rfl) ?_
  refine Sg.go 1 (by kernel_rfl) ?_
  refine Sg.done (by kernel_rfl) ?_
  show To Tryz.prog 7 [1] _ _ _ _
  refine To.seq (by kernel_rfl) ?_
  refine To.region (by kernel_rfl) ?_
  refine Sg.go 1 (by kernel_rfl) ?_
  refine Sg.op (some 8) (by kernel_rfl) (jLenV (l := data.length) (hd) (by kernel_rfl)) ?_
  by_cases g1 : 1 ≤ data.length
  · skip
    refine Sg.op (some 9) (by kernel_rfl) (jBin (b_geqT .i64 (x := ((data.length : Nat) : Int)) (y := (1 : Int)) (by omega)) (by kernel_rfl)) ?_
    refine Sg.go 2 (by kernel_rfl) ?_
    refine Sg.op (some 12) (by kernel_rfl) (jLenV (l := data.length) (hd) (by kernel_rfl)) ?_
    by_cases g2 : data.length ≤ 60
    · skip
      refine Sg.op (some 13) (by kernel_rfl) (jBin (b_leqT .i64 (x := ((data.length : Nat) : Int)) (y := (60 : Int)) (by omega)) (by kernel_rfl)) ?_
      by_cases g3 : 1 ≤ sz
      · skip
        obtain ⟨N, rfl⟩ : ∃ N : Nat, sz = N := ⟨sz.toNat, by omega⟩
        refine Sg.go 3 (by kernel_rfl) ?_
        refine Sg.op (some 17) (by kernel_rfl) (jBin (b_geqT .i64 (x := ((N : Nat) : Int)) (y := (1 : Int)) (by omega)) (by kernel_rfl)) ?_
        by_cases g4 : (N : Int) ≤ 20
        · skip
          refine Sg.go 3 (by kernel_rfl) ?_
          refine Sg.op (some 21) (by kernel_rfl) (jBin (b_leqT .i64 (x := ((N : Nat) : Int)) (y := (20 : Int)) (by omega)) (by kernel_rfl)) ?_
          by_cases g5 : 1 ≤ mo
          · skip
            refine Sg.go 3 (by kernel_rfl) ?_
            refine Sg.op (some 25) (by kernel_rfl) (jBin (b_geqT .i64 (x := (mo)) (y := (1 : Int)) (by omega)) (by kernel_rfl)) ?_
            by_cases g6 : mo ≤ 8
            · skip
              refine Sg.go 3 (by kernel_rfl) ?_
              refine Sg.op (some 29) (by kernel_rfl) (jBin (b_leqT .i64 (x := (mo)) (y := (8 : Int)) (by omega)) (by kernel_rfl)) ?_
              refine Sg.go 3 (by kernel_rfl) ?_
              refine Sg.op (some 33) (by kernel_rfl) (jLenV (l := data.length) (hd) (by kernel_rfl)) ?_
              refine Sg.go 1 (by kernel_rfl) ?_
              refine Sg.op (some 35) (by kernel_rfl) (jBin (op := .quo) (a := vi data.length) (b := vi N) (b_quoN data.length N (by omega) (by omega)) (by kernel_rfl)) ?_
              by_cases g7 : data.length / N ≤ 16
              · skip
                refine Sg.op (some 36) (by kernel_rfl) (jBin (b_leqT .i64 (x := ((data.length / N : Nat) : Int)) (y := (16 : Int)) (by omega)) (by kernel_rfl)) ?_
                refine Sg.go 2 (by kernel_rfl) ?_
                refine Sg.done (by kernel_rfl) ?_
                show To Tryz.prog 7 [1, 1] _ _ _ _
                refine To.ret (by kernel_rfl) ?_
                exact ⟨.inr rfl, _, by kernel_rfl, X, _, s0, hm0, true, rfl, fun _ => ⟨by omega, by omega, by omega, by omega, by omega, by omega⟩⟩
              · skip
                refine Sg.op (some 36) (by kernel_rfl) (jBin (b_leqF .i64 (x := ((data.length / N : Nat) : Int)) (y := (16 : Int)) (by omega)) (by kernel_rfl)) ?_
                refine Sg.go 2 (by kernel_rfl) ?_
                refine Sg.done (by kernel_rfl) ?_
                show To Tryz.prog 7 [1, 1] _ _ _ _
                refine To.ret (by kernel_rfl) ?_
                exact ⟨.inr rfl, _, by kernel_rfl, X, _, s0, hm0, false, rfl, fun h => by cases h⟩
            · skip
              refine Sg.go 3 (by kernel_rfl) ?_
              refine Sg.op (some 29) (by kernel_rfl) (jBin (b_leqF .i64 (x := (mo)) (y := (8 : Int)) (by omega)) (by kernel_rfl)) ?_
              refine Sg.go 9 (by kernel_rfl) ?_
              refine Sg.done (by kernel_rfl) ?_
              show To Tryz.prog 7 [1, 1] _ _ _ _
              refine To.ret (by kernel_rfl) ?_
              exact ⟨.inr rfl, _, by kernel_rfl, X, _, s0, hm0, false, rfl, fun h => by cases h⟩
          · skip
            refine Sg.go 3 (by kernel_rfl) ?_
            refine Sg.op (some 25) (by kernel_rfl) (jBin (b_geqF .i64 (x := (mo)) (y := (1 : Int)) (by omega)) (by kernel_rfl)) ?_
            refine Sg.go 13 (by kernel_rfl) ?_
            refine Sg.done (by kernel_rfl) ?_
            show To Tryz.prog 7 [1, 1] _ _ _ _
            refine To.ret (by kernel_rfl) ?_
            exact ⟨.inr rfl, _, by kernel_rfl, X, _, s0, hm0, false, rfl, fun h => by cases h⟩
        · skip
          refine Sg.go 3 (by kernel_rfl) ?_
          refine Sg.op (some 21) (by kernel_rfl) (jBin (b_leqF .i64 (x := ((N : Nat) : Int)) (y := (20 : Int)) (by omega)) (by kernel_rfl)) ?_
          refine Sg.go 17 (by kernel_rfl) ?_
          refine Sg.done (by kernel_rfl) ?_
          show To Tryz.prog 7 [1, 1] _ _ _ _
          refine To.ret (by kernel_rfl) ?_
          exact ⟨.inr rfl, _, by kernel_rfl, X, _, s0, hm0, false, rfl, fun h => by cases h⟩
      · skip
        refine Sg.go 3 (by kernel_rfl) ?_
        refine Sg.op (some 17) (by kernel_rfl) (jBin (b_geqF .i64 (x := (sz)) (y := (1 : Int)) (by omega)) (by kernel_rfl)) ?_
        refine Sg.go 21 (by kernel_rfl) ?_
        refine Sg.done (by kernel_rfl) ?_
        show To Tryz.prog 7 [1, 1] _ _ _ _
        refine To.ret (by kernel_rfl) ?_
        exact ⟨.inr rfl, _, by kernel_rfl, X, _, s0, hm0, false, rfl, fun h => by cases h⟩
    · skip
      refine Sg.op (some 13) (by kernel_rfl) (jBin (b_leqF .i64 (x := ((data.length : Nat) : Int)) (y := (60 : Int)) (by omega)) (by kernel_rfl)) ?_
      refine Sg.go 25 (by kernel_rfl) ?_
      refine Sg.done (by kernel_rfl) ?_
      show To Tryz.prog 7 [1, 1] _ _ _ _
      refine To.ret (by kernel_rfl) ?_
      exact ⟨.inr rfl, _, by kernel_rfl, X, _, s0, hm0, false, rfl, fun h => by cases h⟩
  · skip
    refine Sg.op (some 9) (by kernel_rfl) (jBin (b_geqF .i64 (x := ((data.length : Nat) : Int)) (y := (1 : Int)) (by omega)) (by kernel_rfl)) ?_
    refine Sg.go 29 (by kernel_rfl) ?_
    refine Sg.done (by kernel_rfl) ?_
    show To Tryz.prog 7 [1, 1] _ _ _ _
    refine To.ret (by kernel_rfl) ?_
    exact ⟨.inr rfl, _, by kernel_rfl, X, _, s0, hm0, false, rfl, fun h => by cases h⟩
theorem splice_length {cs new : List F} {off : Nat} (h : off + new.length ≤ cs.length) : (splice cs off new).length = cs.length := by simp [splice]; omega
theorem drp_sub {rs rs' : List Rc} {i e : Nat} (h : ∀ r ∈ rs, r ∈ rs') (he : e ∈ (drp rs i).map (·.1)) : e ∈ (drp rs' i).map (·.1) := by
  obtain ⟨p, hp, rfl⟩ := List.mem_map.1 he
  obtain ⟨r, hr, hb, rfl⟩ := drp_mem hp
  refine List.mem_map.2 ⟨(r.e, r.d), ?_, rfl⟩
  unfold drp
  exact List.mem_map.2 ⟨r, List.mem_filter.2 ⟨h r hr, by simpa using hb⟩, rfl⟩
theorem recU_len {data : List Nat} {B N M x : Nat} {bl : List (Nat × List (List Nat))} (hS : ShOk B N M) (hbl : bl.length = blkS B N M) (hA : BlAll data B N M bl) : 1 ≤ (recU N x bl bl.length).length ∧ (recU N x bl bl.length).length ≤ 60 * (8 + x) := by
  have hb := blk_pos hS
  have : ∀ i, i ≤ bl.length → i ≤ (recU N x bl i).length ∧ (recU N x bl i).length ≤ i * (8 + x) := by
    intro i
    induction i with
    | zero => intro _; simp [recU]
    | succ i ih =>
      intro hi
      obtain ⟨h1, h2⟩ := ih (by omega)
      have e : bl[i]? = some bl[i] := List.getElem?_eq_getElem (by omega)
      have hq := (hA i _ e).1
      have hk := (kS_all hS).2.2 i (by omega)
      simp only [recU, e, Option.getD_some, List.length_append, recB, List.length_map, List.length_range]
      rw [Nat.add_mul]
      omega
  obtain ⟨h1, h2⟩ := this bl.length (Nat.le_refl _)
  refine ⟨by omega, Nat.le_trans h2 (Nat.mul_le_mul_right _ (by omega))⟩
theorem more_pure {X : Heap} {n : Nat} {fd fo : F} {sz mo : Int} {pk : Nat} (hw : ∀ (X : Heap) (n : Nat), Top X n → PureC 6 [] X n fun v _ => v = vf (.bool true)) (data : List Nat) (zs : List Int) (hd0 : Cm.lenA fd = some data.length) (hd1 : 0 < data.length → data.length ≤ 60 → RowV X fd data) (hcp : CapOk fd) (ho : ZsV X fo zs) (hpk : pk < 18446744073709551616) (ht : Top X n) : PureC 4 [vf (fd), vf (.int .i64 (sz)), vf (.int .i64 (mo)), vf (.int .u64 ((pk : Nat) : Int)), vf (fo)] X n fun v X' => v = vf (.bool true) := by
  refine PureC.of_to (by kernel_rfl) ?_
  have s0 := Sep.ini ht
  have hm0 : Mono X X := Mono.rfl
  refine To.seq (by kernel_rfl) ?_
  refine To.region (by kernel_rfl) ?_
  refine Sg.go 1 (by kernel_rfl) ?_
  refine Sg.done (by kernel_rfl) ?_
  show To Tryz.prog 4 [1] _ _ _ _
  refine To.seq (by kernel_rfl) ?_
  refine To.region (by kernel_rfl) ?_
  obtain ⟨_, X1, n2, hc3, hm4, ht5, rfl⟩ := (hw _ _ s0.topX : PureC 6 [] X (n) _)
  obtain ⟨H6, hc7, s8⟩ := s0.call hc3 hm4 ht5
  have hm0 := hm0.tr hm4
  have ho := ho.mono hm4
  refine Sg.op (some 25) (by kernel_rfl) (jCall (by kernel_rfl) hc7 (by kernel_rfl)) ?_
  obtain ⟨v, Xq, nq, hc, hm, ht2, b, rfl, hb⟩ := small_pure (sz := sz) (mo := mo) data hd0 s8.topX
  cases b
  · skip
    refine Sg.go 1 (by kernel_rfl) ?_
    refine Sg.done (by kernel_rfl) ?_
    show To Tryz.prog 4 [1, 1] _ _ _ _
    refine To.seq (by kernel_rfl) ?_
    refine To.seq (by kernel_rfl) ?_
    refine To.region (by kernel_rfl) ?_
    refine Sg.go 6 (by kernel_rfl) ?_
    obtain ⟨_, X9, n10, hc11, hm12, ht13, rfl⟩ := (PureC.same hc hm ht2 : PureC 7 [vf (fd), vf (.int .i64 (sz)), vf (.int .i64 (mo))] X1 (n2) _)
    obtain ⟨H14, hc15, s16⟩ := s8.call hc11 hm12 ht13
    have hm0 := hm0.tr hm12
    have ho := ho.mono hm12
    refine Sg.op (some 32) (by kernel_rfl) (jCall (by kernel_rfl) hc15 (by kernel_rfl)) ?_
    refine Sg.go 7 (by kernel_rfl) ?_
    refine Sg.done (by kernel_rfl) ?_
    show To Tryz.prog 4 [1, 0, 1, 1] _ _ _ _
    refine To.ifT (by kernel_rfl) (by kernel_rfl) ?_
    refine To.seq (by kernel_rfl) ?_
    refine To.region (by kernel_rfl) ?_
    refine Sg.go 2 (by kernel_rfl) ?_
    refine Sg.done (by kernel_rfl) ?_
    show To Tryz.prog 4 [1, 0, 1, 0, 1, 1] _ _ _ _
    refine To.ret (by kernel_rfl) ?_
    exact ⟨.inr rfl, _, by kernel_rfl, X9, _, s16, hm0, rfl⟩
  · skip
    refine Sg.go 1 (by kernel_rfl) ?_
    refine Sg.done (by kernel_rfl) ?_
    show To Tryz.prog 4 [1, 1] _ _ _ _
    refine To.seq (by kernel_rfl) ?_
    refine To.seq (by kernel_rfl) ?_
    refine To.region (by kernel_rfl) ?_
    refine Sg.go 6 (by kernel_rfl) ?_
    obtain ⟨_, X17, n18, hc19, hm20, ht21, rfl⟩ := (PureC.same hc hm ht2 : PureC 7 [vf (fd), vf (.int .i64 (sz)), vf (.int .i64 (mo))] X1 (n2) _)
    obtain ⟨H22, hc23, s24⟩ := s8.call hc19 hm20 ht21
    have hm0 := hm0.tr hm20
    have ho := ho.mono hm20
    refine Sg.op (some 32) (by kernel_rfl) (jCall (by kernel_rfl) hc23 (by kernel_rfl)) ?_
    refine Sg.go 4 (by kernel_rfl) ?_
    refine Sg.op (some 37) (by kernel_rfl) (jLenV (l := zs.length) (ho.lenA) (by kernel_rfl)) ?_
    by_cases hz9 : 100 < zs.length
    · skip
      refine Sg.op (some 38) (by kernel_rfl) (jBin (b_gtrT .i64 (x := ((zs.length : Nat) : Int)) (y := (100 : Int)) (by omega)) (by kernel_rfl)) ?_
      refine Sg.go 1 (by kernel_rfl) ?_
      refine Sg.done (by kernel_rfl) ?_
      show To Tryz.prog 4 [1, 0, 1, 1] _ _ _ _
      refine To.ifT (by kernel_rfl) (by kernel_rfl) ?_
      refine To.seq (by kernel_rfl) ?_
      refine To.region (by kernel_rfl) ?_
      refine Sg.go 2 (by kernel_rfl) ?_
      refine Sg.done (by kernel_rfl) ?_
      show To Tryz.prog 4 [1, 0, 1, 0, 1, 1] _ _ _ _
      refine To.ret (by kernel_rfl) ?_
      exact ⟨.inr rfl, _, by kernel_rfl, X17, _, s24, hm0, rfl⟩
    · skip
      refine Sg.op (some 38) (by kernel_rfl) (jBin (b_gtrF .i64 (x := ((zs.length : Nat) : Int)) (y := (100 : Int)) (by omega)) (by kernel_rfl)) ?_
      obtain ⟨c1, c2, c3, c4, c5, c6⟩ := hb rfl
      have hd := (hd1 (by omega) (by omega)).mono hm0
      obtain ⟨N, rfl⟩ : ∃ N : Nat, sz = N := ⟨sz.toNat, by omega⟩
      obtain ⟨M, rfl⟩ : ∃ M : Nat, mo = M := ⟨mo.toNat, by omega⟩
      obtain ⟨B, hB⟩ : ∃ B, data.length = B := ⟨_, rfl⟩
      have hS : ShOk B N M := ⟨by omega, by omega, by omega, by omega, by omega, by omega⟩
      have hb8 := hd.2.1
      refine Sg.go 1 (by kernel_rfl) ?_
      refine Sg.done (by kernel_rfl) ?_
      show To Tryz.prog 4 [1, 0, 1, 1] _ _ _ _
      refine To.ifF (by kernel_rfl) (by kernel_rfl) ?_
      refine To.skip (by kernel_rfl) ?_
      show To Tryz.prog 4 [1, 1, 1] _ _ _ _
      refine To.seq (by kernel_rfl) ?_
      refine To.region (by kernel_rfl) ?_
      refine Sg.go 1 (by kernel_rfl) ?_
      refine Sg.op (some 42) (by kernel_rfl) (jLenV (l := B) (hB ▸ hd.lenA) (by kernel_rfl)) ?_
      refine Sg.go 3 (by kernel_rfl) ?_
      obtain ⟨H25, s26, J27⟩ := jNewM s24 (.cells [.int .i64 0, .int .i64 0, .int .i64 0] true)
      refine Sg.op (some 12) (by kernel_rfl) (J27 _ _ (vf (.ptr (n18) (0))) (by kernel_rfl)) ?_
      obtain ⟨H28, s29, J30⟩ := jSet (off := 0) (new := [.int .i64 ((B : Nat) : Int), .int .i64 ((N : Nat) : Int), .int .i64 ((M : Nat) : Int)]) (cs' := [.int .i64 ((B : Nat) : Int), .int .i64 ((N : Nat) : Int), .int .i64 ((M : Nat) : Int)]) s26 0 rfl (by simp) rfl
      have s29 : Sep X17 H28 (n18 + 1) [(n18, .cells [.int .i64 ((B : Nat) : Int), .int .i64 ((N : Nat) : Int), .int .i64 ((M : Nat) : Int)] true)] := s29
      refine Sg.op none (by kernel_rfl) (J30 _ _ (by kernel_rfl)) ?_
      refine Sg.done (by kernel_rfl) ?_
      show To Tryz.prog 4 [1, 1, 1, 1] _ _ _ _
      refine To.seq (by kernel_rfl) ?_
      refine To.region (by kernel_rfl) ?_
      refine Sg.op (some 47) (by kernel_rfl) (jLoadAE (off := 0) (sz := 3) (c := [.int .i64 ((B : Nat) : Int), .int .i64 ((N : Nat) : Int), .int .i64 ((M : Nat) : Int)]) (s29.at 0 rfl) (by simp) rfl (by kernel_rfl)) ?_
      refine Sg.go 1 (by kernel_rfl) ?_
      obtain ⟨v, Xr, nr, hc3, hm3, ht3, g, e, rfl, hg⟩ := onew_pure data hS hd hB hcp s29.topX
      rcases hg with ⟨rfl, o, bl, rfl, hO, hbl, hA⟩ | ⟨rfl, rfl, _⟩
      · skip
        obtain ⟨_, X31, n32, hc33, hm34, ht35, ⟨rfl, rfl⟩⟩ := (PureC.keep hc3 hm3 ht3 : PureC 8 [.u (.agg [.int .i64 ((B : Nat) : Int), .int .i64 ((N : Nat) : Int), .int .i64 ((M : Nat) : Int)]), vf (fd)] X17 (n18 + 1) _)
        obtain ⟨H36, hc37, s38⟩ := s29.call hc33 hm34 ht35
        have hm0 := hm0.tr hm34
        have ho := ho.mono hm34
        have hd := hd.mono hm34
        refine Sg.op (some 49) (by kernel_rfl) (jCall (by kernel_rfl) hc37 (by kernel_rfl)) ?_
        refine Sg.go 5 (by kernel_rfl) ?_
        refine Sg.done (by kernel_rfl) ?_
        show To Tryz.prog 4 [1, 1, 1, 1, 1] _ _ _ _
        refine To.seq (by kernel_rfl) ?_
        refine To.seq (by kernel_rfl) ?_
        refine To.region (by kernel_rfl) ?_
        refine Sg.go 1 (by kernel_rfl) ?_
        refine Sg.op (some 53) (by kernel_rfl) (jBin (b_neqF .i64 (x := (0 : Int)) (y := (0 : Int)) (by omega)) (by kernel_rfl)) ?_
        refine Sg.go 4 (by kernel_rfl) ?_
        refine Sg.done (by kernel_rfl) ?_
        show To Tryz.prog 4 [1, 0, 1, 1, 1, 1, 1] _ _ _ _
        refine To.ifF (by kernel_rfl) (by kernel_rfl) ?_
        refine To.skip (by kernel_rfl) ?_
        show To Tryz.prog 4 [1, 1, 1, 1, 1, 1] _ _ _ _
        refine To.seq (by kernel_rfl) ?_
        refine To.region (by kernel_rfl) ?_
        refine Sg.go 2 (by kernel_rfl) ?_
        obtain ⟨_, X39, n40, hc41, hm42, ht43, ⟨lr, rfl, hlr⟩⟩ := (records_pure (x := 4) data bl hS hb8 (by omega) hO hbl hA s38.topX : PureC 9 [vf (.ptr (o) (0)), .u (.agg [.int .i64 1, .int .i64 1]), vf (.int .i64 4), vf (.int .i64 90)] X31 (n32) _)
        obtain ⟨H44, hc45, s46⟩ := s38.call hc41 hm42 ht43
        have hm0 := hm0.tr hm42
        have ho := ho.mono hm42
        have hd := hd.mono hm42
        have hO := hO.mono hm42
        refine Sg.op (some 60) (by kernel_rfl) (jCall (by kernel_rfl) hc45 (by kernel_rfl)) ?_
        obtain ⟨hown, hok⟩ := own_ok (x := 4) hb8 hS (by omega) hbl hA
        have hrl := recU_len (x := 4) (N := N) hS hbl hA
        refine Sg.go 1 (by kernel_rfl) ?_
        refine Sg.done (by kernel_rfl) ?_
        show To Tryz.prog 4 [1, 1, 1, 1, 1, 1, 1] _ _ _ _
        refine To.seq (by kernel_rfl) ?_
        refine To.region (by kernel_rfl) ?_
        refine Sg.go 1 (by kernel_rfl) ?_
        refine Sg.done (by kernel_rfl) ?_
        show To Tryz.prog 4 [1, 1, 1, 1, 1, 1, 1, 1] _ _ _ _
        refine To.seq (by kernel_rfl) ?_
        refine To.seq (by kernel_rfl) ?_
        refine To.region (by kernel_rfl) ?_
        refine Sg.go 1 (by kernel_rfl) ?_
        refine Sg.done (by kernel_rfl) ?_
        show To Tryz.prog 4 [1, 0, 1, 1, 1, 1, 1, 1, 1, 1] _ _ _ _
        refine To.block 0 (by kernel_rfl) ?_
        refine To.loop (by kernel_rfl) ?_
        refine ToL.for ((recU N 4 bl bl.length).length) (fun i A Hq nq => ∃ (Y : Heap) (a : F) (fs : List F) (fl : List Rc), AtL A [(0, vf (fd)), (3, vf (.int .u64 ((pk : Nat) : Int))), (4, vf (fo)), (12, vf (.ptr (n18) (0))), (15, vf (lr)), (16, vf (a)), (17, vf (.int .i64 ((i : Nat) : Int)))] ∧ Sep Y Hq nq ([(n18, .cells [.int .i64 ((B : Nat) : Int), .int .i64 ((N : Nat) : Int), .int .i64 ((M : Nat) : Int)] true)] ++ (accM (a) (fs) ++ [])) ∧ (Mono X Y) ∧ (RowV Y fd data) ∧ (ZsV Y fo zs) ∧ (RecsV B N M Y lr (recU N 4 bl bl.length)) ∧ (AccF 10 a fs) ∧ (Cat (RecV B N M Y) 10 fl fs) ∧ (∀ r ∈ fl, r ∈ (recU N 4 bl bl.length)) ∧ (fl.length ≤ i)) ⟨X39, .sl0, [], [], getsL_spec (ts := [0, 3, 4, 12, 15, 16, 17]) (by kernel_rfl), s46, (hm0), (hd), (ho), (hlr), (AccF.nil 10), (rfl), (fun _ h => by cases h), (by simp)⟩ (fun i A H47 n48 hi hI => ?_) (fun A H47 n48 hI => ?_)
        · skip
          obtain ⟨Y, a, fs, fl, hT, s49, hm0, hd, ho, hlr, ha, hc, hfl, hfn⟩ := hI
          refine To.keep _ ?_ hT.sub
          obtain ⟨⟨b, e, d⟩, hed⟩ : ∃ x, x = (recU N 4 bl bl.length)[i] := ⟨_, rfl⟩
          have hx : (recU N 4 bl bl.length)[i]? = some ⟨b, e, d⟩ := by rw [List.getElem?_eq_getElem hi, hed]
          have hin : (⟨b, e, d⟩ : Rc) ∈ (recU N 4 bl bl.length) := List.mem_of_getElem? hx
          have hfs := hc.len
          have hand : i &&& 63 ≤ 63 := Nat.and_le_right
          obtain ⟨w0, hw0⟩ : ∃ w, w = pk / 2 ^ (min (i &&& 63) (IntKind.bits .u64)) := ⟨_, rfl⟩
          have hw1 : w0 ≤ pk := by rw [hw0]; exact Nat.div_le_self _ _
          refine To.seq (by kernel_rfl) ?_
          refine To.seq (by kernel_rfl) ?_
          refine To.region (by kernel_rfl) ?_
          refine Sg.go 2 (by kernel_rfl) ?_
          refine Sg.op (some 63) (by kernel_rfl) (jLenV (l := (recU N 4 bl bl.length).length) (hlr.lenA) (by kernel_rfl)) ?_
          refine Sg.op (some 64) (by kernel_rfl) (jBin (b_lssT .i64 (x := ((i : Nat) : Int)) (y := (((recU N 4 bl bl.length).length : Nat) : Int)) (by omega)) (by kernel_rfl)) ?_
          refine Sg.done (by kernel_rfl) ?_
          show To Tryz.prog 4 [1, 0, 0, 0, 1, 0, 1, 1, 1, 1, 1, 1, 1, 1] _ _ _ _
          refine To.ifT (by kernel_rfl) (by kernel_rfl) ?_
          refine To.skip (by kernel_rfl) ?_
          show To Tryz.prog 4 [1, 0, 0, 1, 0, 1, 1, 1, 1, 1, 1, 1, 1] _ _ _ _
          refine To.seq (by kernel_rfl) ?_
          refine To.block 1 (by kernel_rfl) ?_
          refine To.seq (by kernel_rfl) ?_
          refine To.region (by kernel_rfl) ?_
          refine Sg.go 2 (by kernel_rfl) ?_
          refine Sg.op (some 69) (by kernel_rfl) (jBin (b_and .i64 i 63 (show i ≤ 9223372036854775807 by omega) (show 63 ≤ 9223372036854775807 by omega)) (by kernel_rfl)) ?_
          refine Sg.op (some 70) (by kernel_rfl) (jConv (k := .u64) (x := ((i &&& 63 : Nat) : Int)) (z := ((i &&& 63 : Nat) : Int)) (wrap_id (by omega) (show ((i &&& 63 : Nat) : Int) ≤ ((18446744073709551615 : Nat) : Int) by omega)) (by kernel_rfl)) ?_
          refine Sg.op (some 71) (by kernel_rfl) (jBin (op := .shr) (a := vf (.int .u64 ((pk : Nat) : Int))) (b := vf (.int .u64 ((i &&& 63 : Nat) : Int))) (z := .int .u64 ((w0 : Nat) : Int)) (fun t => by rw [hw0]; exact b_shr .u64 .u64 pk (i &&& 63) t) (by kernel_rfl)) ?_
          refine Sg.op (some 72) (by kernel_rfl) (jBin (b_and .u64 w0 1 (show w0 ≤ 18446744073709551615 by omega) (show 1 ≤ 18446744073709551615 by omega)) (by kernel_rfl)) ?_
          by_cases hbit : w0 &&& 1 = 1
          · skip
            refine Sg.op (some 73) (by kernel_rfl) (jBin (b_eqlT .u64 (x := ((w0 &&& 1 : Nat) : Int)) (y := (1 : Int)) (by omega)) (by kernel_rfl)) ?_
            refine Sg.done (by kernel_rfl) ?_
            show To Tryz.prog 4 [1, 0, 0, 1, 0, 0, 1, 0, 1, 1, 1, 1, 1, 1, 1, 1] _ _ _ _
            obtain ⟨rid, roff, rcap, all, ex, c, rfl, h2, h3, h4, g, rfl, hR⟩ := hlr.at hx
            refine To.ifT (by kernel_rfl) (by kernel_rfl) ?_
            refine To.region (by kernel_rfl) ?_
            refine Sg.go 3 (by kernel_rfl) ?_
            refine Sg.op (some 77) (by kernel_rfl) (jIdx (id := rid) (off := roff) (sz := 10) (len := (recU N 4 bl bl.length).length) (k := i) (by omega) (by kernel_rfl)) ?_
            refine Sg.op (some 78) (by kernel_rfl) (jLoadAE (id := rid) (off := roff + i * 10) (sz := 10) (c := [.int .i64 1, .int .i64 1, .int .i64 ((B : Nat) : Int), .int .i64 ((N : Nat) : Int), .int .i64 ((M : Nat) : Int), .int .i64 ((b : Nat) : Int), .int .i64 ((e : Nat) : Int), .bool false, .int .i64 90, g]) (s49.mono _ _ h2) h3 h4 (by kernel_rfl)) ?_
            obtain ⟨X50, H51, s52, m53, f54, J55⟩ := jNewF s49 (.cells [.int .i64 1, .int .i64 1, .int .i64 ((B : Nat) : Int), .int .i64 ((N : Nat) : Int), .int .i64 ((M : Nat) : Int), .int .i64 ((b : Nat) : Int), .int .i64 ((e : Nat) : Int), .bool false, .int .i64 90, g] true)
            have hm0 := hm0.tr m53
            have hlr := hlr.mono RecV.mono m53
            have hc := hc.mono fun _ _ h => h.mono _ _ _ _ m53
            have hd := hd.mono m53
            have ho := ho.mono m53
            have hR := hR.mono m53
            refine Sg.op (some 79) (by kernel_rfl) (J55 _ _ (vf (.sl (n48) (0) 10 (1) none)) (by kernel_rfl)) ?_
            obtain ⟨a56, H57, n58, ha59, s60, J61⟩ := jAcc (sz := 10) (bytes := 96) (x := .sl (n48) (0) 10 (1) none) (fs := fs) (new := [.int .i64 1, .int .i64 1, .int .i64 ((B : Nat) : Int), .int .i64 ((N : Nat) : Int), .int .i64 ((M : Nat) : Int), .int .i64 ((b : Nat) : Int), .int .i64 ((e : Nat) : Int), .bool false, .int .i64 90, g]) (M1 := [(n18, .cells [.int .i64 ((B : Nat) : Int), .int .i64 ((N : Nat) : Int), .int .i64 ((M : Nat) : Int)] true)]) (M2 := []) s52 ha (row_all (s52.mono _ _ f54) rfl) (rfl) (by omega) (by omega)
            refine Sg.op (some 80) (by kernel_rfl) (J61 _ _ (by kernel_rfl)) ?_
            refine Sg.go 1 (by kernel_rfl) ?_
            refine Sg.done (by kernel_rfl) ?_
            show To Tryz.prog 4 [1, 1, 0, 0, 1, 0, 1, 1, 1, 1, 1, 1, 1, 1] _ _ _ _
            refine To.region (by kernel_rfl) ?_
            refine Sg.go 1 (by kernel_rfl) ?_
            refine Sg.op (some 66) (by kernel_rfl) (jBin (b_addN (i) (1) (by omega)) (by kernel_rfl)) ?_
            refine Sg.go 1 (by kernel_rfl) ?_
            refine Sg.done (by kernel_rfl) ?_
            exact .inl ⟨rfl, X50, _, _, fl ++ [⟨b, e, d⟩], getsL_spec (ts := [0, 3, 4, 12, 15, 16, 17]) (by kernel_rfl), s60, (hm0), (hd), (ho), (hlr), (ha59), (hc.snoc ⟨g, rfl, hR⟩ rfl), (fun r hr => by rcases List.mem_append.1 hr with h | h; exact hfl r h; simp at h; rw [h]; exact hin), (by simp; omega)⟩
          · skip
            refine Sg.op (some 73) (by kernel_rfl) (jBin (b_eqlF .u64 (x := ((w0 &&& 1 : Nat) : Int)) (y := (1 : Int)) (by omega)) (by kernel_rfl)) ?_
            refine Sg.done (by kernel_rfl) ?_
            show To Tryz.prog 4 [1, 0, 0, 1, 0, 0, 1, 0, 1, 1, 1, 1, 1, 1, 1, 1] _ _ _ _
            refine To.ifF (by kernel_rfl) (by kernel_rfl) ?_
            refine To.skip (by kernel_rfl) ?_
            show To Tryz.prog 4 [1, 1, 0, 0, 1, 0, 1, 1, 1, 1, 1, 1, 1, 1] _ _ _ _
            refine To.region (by kernel_rfl) ?_
            refine Sg.go 1 (by kernel_rfl) ?_
            refine Sg.op (some 66) (by kernel_rfl) (jBin (b_addN (i) (1) (by omega)) (by kernel_rfl)) ?_
            refine Sg.go 1 (by kernel_rfl) ?_
            refine Sg.done (by kernel_rfl) ?_
            exact .inl ⟨rfl, Y, _, _, _, getsL_spec (ts := [0, 3, 4, 12, 15, 16, 17]) (by kernel_rfl), s49, (hm0), (hd), (ho), (hlr), (ha), (hc), (hfl), (by omega)⟩
        · skip
          obtain ⟨Y, a, fs, fl, hT, s62, hm0, hd, ho, hlr, ha, hc, hfl, hfn⟩ := hI
          refine To.keep _ ?_ hT.sub
          refine To.seq (by kernel_rfl) ?_
          refine To.seq (by kernel_rfl) ?_
          refine To.region (by kernel_rfl) ?_
          refine Sg.go 2 (by kernel_rfl) ?_
          refine Sg.op (some 63) (by kernel_rfl) (jLenV (l := (recU N 4 bl bl.length).length) (hlr.lenA) (by kernel_rfl)) ?_
          refine Sg.op (some 64) (by kernel_rfl) (jBin (b_lssF .i64 (x := ((((recU N 4 bl bl.length).length) : Nat) : Int)) (y := (((recU N 4 bl bl.length).length : Nat) : Int)) (by simp)) (by kernel_rfl)) ?_
          refine Sg.done (by kernel_rfl) ?_
          show To Tryz.prog 4 [1, 0, 0, 0, 1, 0, 1, 1, 1, 1, 1, 1, 1, 1] _ _ _ _
          obtain ⟨X63, m64, s65, hrow, hrowk⟩ := Sep.acc (sz := 10) (M1 := [(n18, .cells [.int .i64 ((B : Nat) : Int), .int .i64 ((N : Nat) : Int), .int .i64 ((M : Nat) : Int)] true)]) (M2 := []) (a := a) (fs := fs) (by simpa using s62) ha
          have hm0 := hm0.tr m64
          have hlr := hlr.mono RecV.mono m64
          have hc := hc.mono fun _ _ h => h.mono _ _ _ _ m64
          have hd := hd.mono m64
          have ho := ho.mono m64
          have s65 : Sep X63 H47 (n48) [(n18, .cells [.int .i64 ((B : Nat) : Int), .int .i64 ((N : Nat) : Int), .int .i64 ((M : Nat) : Int)] true)] := by simpa using s65
          have hfv : RecsV B N M X63 a fl := SlV.of_acc ha (by omega) hrowk hc
          obtain ⟨v, Xq, nq, hc2, hm2, ht2, g1, ee, rfl, hz⟩ := decode_pure fl hS hfv (fun r hr => hok r (hfl r hr)) (by omega) s65.topX
          rcases hz with ⟨rfl, q1l, hql, hD1, hg1, _⟩ | ⟨rfl, rfl, _⟩
          · skip
            refine To.ifF (by kernel_rfl) (by kernel_rfl) ?_
            refine To.exit 0 (by kernel_rfl) ?_
            refine ⟨by simp, ?_⟩
            show To Tryz.prog 4 [1, 1, 1, 1, 1, 1, 1, 1, 1] _ _ _ _
            refine To.seq (by kernel_rfl) ?_
            refine To.region (by kernel_rfl) ?_
            refine Sg.op (some 82) (by kernel_rfl) (jLoadAE (off := 0) (sz := 3) (c := [.int .i64 ((B : Nat) : Int), .int .i64 ((N : Nat) : Int), .int .i64 ((M : Nat) : Int)]) (s65.at 0 rfl) (by simp) rfl (by kernel_rfl)) ?_
            refine Sg.go 1 (by kernel_rfl) ?_
            obtain ⟨_, X66, n67, hc68, hm69, ht70, ⟨rfl, rfl⟩⟩ := (PureC.keep hc2 hm2 ht2 : PureC 16 [.u (.agg [.int .i64 ((B : Nat) : Int), .int .i64 ((N : Nat) : Int), .int .i64 ((M : Nat) : Int)]), vf (a)] X63 (n48) _)
            obtain ⟨H71, hc72, s73⟩ := s65.call hc68 hm69 ht70
            have hm0 := hm0.tr hm69
            have hlr := hlr.mono RecV.mono hm69
            have hc := hc.mono fun _ _ h => h.mono _ _ _ _ hm69
            have hd := hd.mono hm69
            have ho := ho.mono hm69
            have hrow := rowA_mono hm69 hrow
            have hfv := hfv.mono RecV.mono hm69
            refine Sg.op (some 84) (by kernel_rfl) (jCall (by kernel_rfl) hc72 (by kernel_rfl)) ?_
            rw [hD1.data hb8 hB hS hbl hA (fun r hr => hown r (hfl r hr)) (fun r hr => hok r (hfl r hr)) hql] at hg1
            have s74 : Sep X66 H71 (n67) ([(n18, .cells [.int .i64 ((B : Nat) : Int), .int .i64 ((N : Nat) : Int), .int .i64 ((M : Nat) : Int)] true)] ++ (accM (.sl0) ([]) ++ [])) := by rw [show accM F.sl0 [] = [] from rfl]; exact s73
            refine Sg.go 5 (by kernel_rfl) ?_
            refine Sg.done (by kernel_rfl) ?_
            show To Tryz.prog 4 [1, 1, 1, 1, 1, 1, 1, 1, 1, 1] _ _ _ _
            refine To.seq (by kernel_rfl) ?_
            refine To.seq (by kernel_rfl) ?_
            refine To.region (by kernel_rfl) ?_
            refine Sg.go 1 (by kernel_rfl) ?_
            refine Sg.op (some 88) (by kernel_rfl) (jBin (b_eqlF .i64 (x := (0 : Int)) (y := (4 : Int)) (by omega)) (by kernel_rfl)) ?_
            refine Sg.done (by kernel_rfl) ?_
            show To Tryz.prog 4 [1, 0, 1, 1, 1, 1, 1, 1, 1, 1, 1, 1] _ _ _ _
            refine To.ifF (by kernel_rfl) (by kernel_rfl) ?_
            refine To.skip (by kernel_rfl) ?_
            show To Tryz.prog 4 [1, 1, 1, 1, 1, 1, 1, 1, 1, 1, 1] _ _ _ _
            refine To.seq (by kernel_rfl) ?_
            refine To.region (by kernel_rfl) ?_
            refine Sg.go 1 (by kernel_rfl) ?_
            obtain ⟨a75, H76, n77, ha78, s79, J80⟩ := jAcc (sz := 10) (bytes := 96) (x := a) (fs := []) (new := fs) (M1 := [(n18, .cells [.int .i64 ((B : Nat) : Int), .int .i64 ((N : Nat) : Int), .int .i64 ((M : Nat) : Int)] true)]) (M2 := []) s74 (AccF.nil 10) (rowA_mono s74.mono hrow) (hfv.lenA) (by omega) (by have := hc.len; simp; omega)
            refine Sg.op (some 93) (by kernel_rfl) (J80 _ _ (by kernel_rfl)) ?_
            obtain ⟨rf, hrf, hrc⟩ := hlr.row
            refine Sg.go 1 (by kernel_rfl) ?_
            obtain ⟨a81, H82, n83, ha84, s85, J86⟩ := jAcc (sz := 10) (bytes := 96) (x := lr) (fs := ([] ++ fs)) (new := rf) (M1 := [(n18, .cells [.int .i64 ((B : Nat) : Int), .int .i64 ((N : Nat) : Int), .int .i64 ((M : Nat) : Int)] true)]) (M2 := []) s79 ha78 (rowA_mono s79.mono hrf) (hlr.lenA) (by omega) (by have h1 := hc.len; simp; omega)
            refine Sg.op (some 95) (by kernel_rfl) (J86 _ _ (by kernel_rfl)) ?_
            refine Sg.go 1 (by kernel_rfl) ?_
            obtain ⟨a87, H88, n89, ha90, s91, J92⟩ := jAcc (sz := 10) (bytes := 96) (x := a) (fs := (([] ++ fs) ++ rf)) (new := fs) (M1 := [(n18, .cells [.int .i64 ((B : Nat) : Int), .int .i64 ((N : Nat) : Int), .int .i64 ((M : Nat) : Int)] true)]) (M2 := []) s85 ha84 (rowA_mono s85.mono hrow) (hfv.lenA) (by omega) (by have h1 := hc.len; have h2 := hrc.len; simp; omega)
            refine Sg.op (some 97) (by kernel_rfl) (J92 _ _ (by kernel_rfl)) ?_
            have hc3 := (hc.append hrc).append hc
            have hl3 := hc3.len
            obtain ⟨km, nm, hkm, hnk⟩ := ha90.some (by simp; have := hrc.len; omega)
            cases hkm
            obtain ⟨ms, hms⟩ : ∃ ms, ms = ((([] ++ fs) ++ rf) ++ fs) := ⟨_, rfl⟩
            have hms2 : ms = fs ++ rf ++ fs := by rw [hms]; simp
            have hc : Cat (RecV B N M X66) 10 (fl ++ (recU N 4 bl bl.length) ++ fl) ms := by rw [hms2]; exact hc3
            have hnm : (fl ++ (recU N 4 bl bl.length) ++ fl).length = nm := by have h1 := hc.len; rw [hms, hnk] at h1; omega
            have hnm0 : 0 < nm := by rw [← hnm]; simp; omega
            have hnm9 : nm < 4000 := by rw [← hnm]; simp; omega
            have s93 : Sep X66 H88 (n89) [(km, .cells (ms) false), (n18, .cells [.int .i64 ((B : Nat) : Int), .int .i64 ((N : Nat) : Int), .int .i64 ((M : Nat) : Int)] true)] := by
              refine Sep.perm s91 ?_
              rw [hms]
              exact List.perm_append_comm (l₁ := [_]) (l₂ := [_])
            skip
            refine Sg.go 1 (by kernel_rfl) ?_
            refine Sg.done (by kernel_rfl) ?_
            show To Tryz.prog 4 [1, 1, 1, 1, 1, 1, 1, 1, 1, 1, 1, 1] _ _ _ _
            refine To.seq (by kernel_rfl) ?_
            refine To.seq (by kernel_rfl) ?_
            refine To.region (by kernel_rfl) ?_
            refine Sg.go 1 (by kernel_rfl) ?_
            refine Sg.done (by kernel_rfl) ?_
            show To Tryz.prog 4 [1, 0, 1, 1, 1, 1, 1, 1, 1, 1, 1, 1, 1, 1] _ _ _ _
            refine To.block 2 (by kernel_rfl) ?_
            refine To.loop (by kernel_rfl) ?_
            refine ToL.for (zs.length) (fun i A Hq nq => ∃ (Y : Heap) (ms : List F) (ml : List Rc), AtL A [(0, vf (fd)), (4, vf (fo)), (12, vf (.ptr (n18) (0))), (18, vf (g1)), (19, vf (.int .i64 0)), (20, vf (.sl (km) (0) 10 (nm) none)), (21, vf (.int .i64 ((i : Nat) : Int)))] ∧ Sep Y Hq nq [(km, .cells (ms) false), (n18, .cells [.int .i64 ((B : Nat) : Int), .int .i64 ((N : Nat) : Int), .int .i64 ((M : Nat) : Int)] true)] ∧ (Mono X Y) ∧ (RowV Y fd data) ∧ (ZsV Y fo zs) ∧ (RowV Y g1 data) ∧ (Cat (RecV B N M Y) 10 ml ms) ∧ (ml.length = nm) ∧ (∀ r, r ∈ ml ↔ r ∈ fl ++ (recU N 4 bl bl.length) ++ fl)) ⟨X66, _, _, getsL_spec (ts := [0, 4, 12, 18, 19, 20, 21]) (by kernel_rfl), s93, (hm0), (hd), (ho), (hg1), (hc), (hnm), (fun _ => Iff.rfl)⟩ (fun i A H94 n95 hi hI => ?_) (fun A H94 n95 hI => ?_)
            · skip
              obtain ⟨Y, ms, ml, hT, s96, hm0, hd, ho, hg1, hc, hml, hmem⟩ := hI
              refine To.keep _ ?_ hT.sub
              have hfs := hc.len
              obtain ⟨oid, ooff, ocap, rfl, hoat⟩ := ho.sl (by omega)
              have hz : zs[i]? = some zs[i] := List.getElem?_eq_getElem hi
              obtain ⟨m, hm1, hm2⟩ := and1023 zs[i]
              obtain ⟨q, hq⟩ : ∃ q, q = m % nm := ⟨_, rfl⟩
              have hql : q < nm := by rw [hq]; exact Nat.mod_lt _ hnm0
              obtain ⟨⟨b0, e0, d0⟩, hx0⟩ : ∃ x, ml[0]? = some x := ⟨_, List.getElem?_eq_getElem (by omega)⟩
              obtain ⟨⟨b1, e1, d1⟩, hx1⟩ : ∃ x, ml[q]? = some x := ⟨_, List.getElem?_eq_getElem (by omega)⟩
              obtain ⟨c0, hk0, hl0, g0, rfl, hR0⟩ := hc.at hx0
              obtain ⟨c1, hk1, hl1, g2, rfl, hR1⟩ := hc.at hx1
              have hq10 : q * 10 + 10 ≤ ms.length := by omega
              refine To.seq (by kernel_rfl) ?_
              refine To.seq (by kernel_rfl) ?_
              refine To.region (by kernel_rfl) ?_
              refine Sg.go 2 (by kernel_rfl) ?_
              refine Sg.op (some 100) (by kernel_rfl) (jLen (l := zs.length) (by kernel_rfl)) ?_
              refine Sg.op (some 101) (by kernel_rfl) (jBin (b_lssT .i64 (x := ((i : Nat) : Int)) (y := ((zs.length : Nat) : Int)) (by omega)) (by kernel_rfl)) ?_
              refine Sg.done (by kernel_rfl) ?_
              show To Tryz.prog 4 [1, 0, 0, 0, 1, 0, 1, 1, 1, 1, 1, 1, 1, 1, 1, 1, 1, 1] _ _ _ _
              refine To.ifT (by kernel_rfl) (by kernel_rfl) ?_
              refine To.skip (by kernel_rfl) ?_
              show To Tryz.prog 4 [1, 0, 0, 1, 0, 1, 1, 1, 1, 1, 1, 1, 1, 1, 1, 1, 1] _ _ _ _
              refine To.seq (by kernel_rfl) ?_
              refine To.block 3 (by kernel_rfl) ?_
              refine To.seq (by kernel_rfl) ?_
              refine To.region (by kernel_rfl) ?_
              refine Sg.go 2 (by kernel_rfl) ?_
              refine Sg.op (some 106) (by kernel_rfl) (jIdx (id := oid) (off := ooff) (sz := 1) (len := zs.length) (k := i) (by omega) (by kernel_rfl)) ?_
              refine Sg.op (some 107) (by kernel_rfl) (jLoadX (id := oid) (off := ooff + i * 1) (x := .int .i64 zs[i]) (by rw [Nat.mul_one]; exact (hoat i _ hz).mono (s96.mono _)) (by kernel_rfl)) ?_
              refine Sg.op (some 108) (by kernel_rfl) (jBin (op := .and) (a := vf (.int .i64 zs[i])) (b := vf (.int .i64 1023)) hm2 (by kernel_rfl)) ?_
              refine Sg.go 1 (by kernel_rfl) ?_
              refine Sg.op (some 110) (by kernel_rfl) (jLen (l := nm) (by kernel_rfl)) ?_
              refine Sg.op (some 111) (by kernel_rfl) (jBin (op := .rem) (a := vi m) (b := vi nm) (z := .int .i64 ((q : Nat) : Int)) (fun t => by rw [hq]; exact b_remN m nm (by omega) t) (by kernel_rfl)) ?_
              refine Sg.go 1 (by kernel_rfl) ?_
              refine Sg.done (by kernel_rfl) ?_
              show To Tryz.prog 4 [1, 0, 0, 1, 0, 0, 1, 0, 1, 1, 1, 1, 1, 1, 1, 1, 1, 1, 1, 1] _ _ _ _
              refine To.draw [0, 3, 4, 5, 6, 7, 8, 9, 10, 11, 1, 2, 12, 13] progOk (by kernel_rfl) (by kernel_rfl) ?_
              refine Sd.go (L := [5, 6, 7, 8, 9, 10, 11, 1, 2, 12, 13]) [0, 3, 4] (by kernel_rfl) ?_
              refine Sd.still (some 117) (by kernel_rfl) (by kernel_rfl) (by kernel_rfl) (jIdx (id := km) (off := 0) (sz := 10) (len := nm) (k := q) (by omega) (by kernel_rfl)) ?_
              refine Sd.read (some 118) (km) (by kernel_rfl) (by kernel_rfl) (by kernel_rfl) trivial (jLoadAE (id := km) (off := 0 + q * 10) (sz := 10) (c := [.int .i64 1, .int .i64 1, .int .i64 ((B : Nat) : Int), .int .i64 ((N : Nat) : Int), .int .i64 ((M : Nat) : Int), .int .i64 ((b1 : Nat) : Int), .int .i64 ((e1 : Nat) : Int), .bool false, .int .i64 90, g2]) (s96.at 0 rfl) (by omega) (by rw [Nat.zero_add]; exact hk1) (by kernel_rfl)) ?_
              refine Sd.go (L := [8, 9, 10, 11, 1, 2, 12, 13]) [7] (by kernel_rfl) ?_
              refine Sd.still (some 120) (by kernel_rfl) (by kernel_rfl) (by kernel_rfl) (jIdx (id := km) (off := 0) (sz := 10) (len := nm) (k := 0) (by omega) (by kernel_rfl)) ?_
              refine Sd.read (some 121) (km) (by kernel_rfl) (by kernel_rfl) (by kernel_rfl) trivial (jLoadAE (id := km) (off := 0 + 0 * 10) (sz := 10) (c := [.int .i64 1, .int .i64 1, .int .i64 ((B : Nat) : Int), .int .i64 ((N : Nat) : Int), .int .i64 ((M : Nat) : Int), .int .i64 ((b0 : Nat) : Int), .int .i64 ((e0 : Nat) : Int), .bool false, .int .i64 90, g0]) (s96.at 0 rfl) (by omega) (by rw [Nat.zero_add]; exact hk0) (by kernel_rfl)) ?_
              refine Sd.still (some 122) (by kernel_rfl) (by kernel_rfl) (by kernel_rfl) (jIdx (id := km) (off := 0) (sz := 10) (len := nm) (k := 0) (by omega) (by kernel_rfl)) ?_
              obtain ⟨H97, s98, J99⟩ := jSet (off := 0 + 0 * 10) (new := [.int .i64 1, .int .i64 1, .int .i64 ((B : Nat) : Int), .int .i64 ((N : Nat) : Int), .int .i64 ((M : Nat) : Int), .int .i64 ((b1 : Nat) : Int), .int .i64 ((e1 : Nat) : Int), .bool false, .int .i64 90, g2]) (cs' := splice ms (0 + 0 * 10) [.int .i64 1, .int .i64 1, .int .i64 ((B : Nat) : Int), .int .i64 ((N : Nat) : Int), .int .i64 ((M : Nat) : Int), .int .i64 ((b1 : Nat) : Int), .int .i64 ((e1 : Nat) : Int), .bool false, .int .i64 90, g2]) s96 0 rfl (by simp only [List.length_cons, List.length_nil]; omega) (rfl)
              have s98 : Sep Y H97 (n95) [(km, .cells (splice ms (0 + 0 * 10) [.int .i64 1, .int .i64 1, .int .i64 ((B : Nat) : Int), .int .i64 ((N : Nat) : Int), .int .i64 ((M : Nat) : Int), .int .i64 ((b1 : Nat) : Int), .int .i64 ((e1 : Nat) : Int), .bool false, .int .i64 90, g2]) false), (n18, .cells [.int .i64 ((B : Nat) : Int), .int .i64 ((N : Nat) : Int), .int .i64 ((M : Nat) : Int)] true)] := s98
              refine Sd.eff none (by kernel_rfl) (by kernel_rfl) (J99 _ _ (by kernel_rfl)) ⟨.inl (by kernel_rfl), .inl (by kernel_rfl), trivial⟩ ?_
              refine Sd.go (L := [12, 13]) [1, 2] (by kernel_rfl) ?_
              refine Sd.still (some 123) (by kernel_rfl) (by kernel_rfl) (by kernel_rfl) (jIdx (id := km) (off := 0) (sz := 10) (len := nm) (k := q) (by omega) (by kernel_rfl)) ?_
              obtain ⟨H100, s101, J102⟩ := jSet (off := 0 + q * 10) (new := [.int .i64 1, .int .i64 1, .int .i64 ((B : Nat) : Int), .int .i64 ((N : Nat) : Int), .int .i64 ((M : Nat) : Int), .int .i64 ((b0 : Nat) : Int), .int .i64 ((e0 : Nat) : Int), .bool false, .int .i64 90, g0]) (cs' := splice (splice ms (0 + 0 * 10) [.int .i64 1, .int .i64 1, .int .i64 ((B : Nat) : Int), .int .i64 ((N : Nat) : Int), .int .i64 ((M : Nat) : Int), .int .i64 ((b1 : Nat) : Int), .int .i64 ((e1 : Nat) : Int), .bool false, .int .i64 90, g2]) (0 + q * 10) [.int .i64 1, .int .i64 1, .int .i64 ((B : Nat) : Int), .int .i64 ((N : Nat) : Int), .int .i64 ((M : Nat) : Int), .int .i64 ((b0 : Nat) : Int), .int .i64 ((e0 : Nat) : Int), .bool false, .int .i64 90, g0]) s98 0 rfl (by rw [splice_length (by simp only [List.length_cons, List.length_nil]; omega)]; simp only [List.length_cons, List.length_nil]; omega) (rfl)
              have s101 : Sep Y H100 (n95) [(km, .cells (splice (splice ms (0 + 0 * 10) [.int .i64 1, .int .i64 1, .int .i64 ((B : Nat) : Int), .int .i64 ((N : Nat) : Int), .int .i64 ((M : Nat) : Int), .int .i64 ((b1 : Nat) : Int), .int .i64 ((e1 : Nat) : Int), .bool false, .int .i64 90, g2]) (0 + q * 10) [.int .i64 1, .int .i64 1, .int .i64 ((B : Nat) : Int), .int .i64 ((N : Nat) : Int), .int .i64 ((M : Nat) : Int), .int .i64 ((b0 : Nat) : Int), .int .i64 ((e0 : Nat) : Int), .bool false, .int .i64 90, g0]) false), (n18, .cells [.int .i64 ((B : Nat) : Int), .int .i64 ((N : Nat) : Int), .int .i64 ((M : Nat) : Int)] true)] := s101
              refine Sd.eff none (by kernel_rfl) (by kernel_rfl) (J102 _ _ (by kernel_rfl)) ⟨.inl (by kernel_rfl), .inl (by kernel_rfl), trivial⟩ ?_
              refine Sd.done ?_
              show To Tryz.prog 4 [1, 1, 0, 0, 1, 0, 1, 1, 1, 1, 1, 1, 1, 1, 1, 1, 1, 1] _ _ _ _
              refine To.region (by kernel_rfl) ?_
              refine Sg.go 1 (by kernel_rfl) ?_
              refine Sg.op (some 103) (by kernel_rfl) (jBin (b_addN (i) (1) (by omega)) (by kernel_rfl)) ?_
              refine Sg.go 1 (by kernel_rfl) ?_
              refine Sg.done (by kernel_rfl) ?_
              exact .inl ⟨rfl, Y, _, (ml.set 0 ⟨b1, e1, d1⟩).set q ⟨b0, e0, d0⟩, getsL_spec (ts := [0, 4, 12, 18, 19, 20, 21]) (by kernel_rfl), s101, (hm0), (hd), (ho), (hg1), (by rw [Nat.zero_add, Nat.zero_add]; exact (hc.set (i := 0) (a := ⟨b1, e1, d1⟩) (by omega) ⟨g2, rfl, hR1⟩ rfl).set (i := q) (a := ⟨b0, e0, d0⟩) (by simp; omega) ⟨g0, rfl, hR0⟩ rfl), (by simp [hml]), (fun r => (mem_swap hx0 hx1 r).trans (hmem r))⟩
            · skip
              obtain ⟨Y, ms, ml, hT, s103, hm0, hd, ho, hg1, hc, hml, hmem⟩ := hI
              refine To.keep _ ?_ hT.sub
              have hin : ∀ r ∈ ml, r ∈ (recU N 4 bl bl.length) := fun r hr => by
                have h := (hmem r).1 hr
                rcases List.mem_append.1 h with h | h
                · rcases List.mem_append.1 h with h | h
                  · exact hfl r h
                  · exact h
                · exact hfl r h
              refine To.seq (by kernel_rfl) ?_
              refine To.seq (by kernel_rfl) ?_
              refine To.region (by kernel_rfl) ?_
              refine Sg.go 2 (by kernel_rfl) ?_
              refine Sg.op (some 100) (by kernel_rfl) (jLenV (l := zs.length) (ho.lenA) (by kernel_rfl)) ?_
              refine Sg.op (some 101) (by kernel_rfl) (jBin (b_lssF .i64 (x := (((zs.length) : Nat) : Int)) (y := ((zs.length : Nat) : Int)) (by simp)) (by kernel_rfl)) ?_
              refine Sg.done (by kernel_rfl) ?_
              show To Tryz.prog 4 [1, 0, 0, 0, 1, 0, 1, 1, 1, 1, 1, 1, 1, 1, 1, 1, 1, 1] _ _ _ _
              have hmz := s103.frz.2
              have s104 := s103.frz.1
              have f105 : (upd Y km (some (.cells ms false))) km = some (.cells ms false) := upd_same _ _ _
              have hm0 := hm0.tr hmz
              have hc := hc.mono fun _ _ h => h.mono _ _ _ _ hmz
              have hd := hd.mono hmz
              have ho := ho.mono hmz
              have hg1 := hg1.mono hmz
              have hmv : RecsV B N M (upd Y km (some (.cells ms false))) (.sl km 0 10 nm none) ml := by
                have h : RecsV B N M (upd Y km (some (.cells ms false))) (.sl km 0 10 ml.length none) ml := .inr ⟨km, 0, none, ms, false, rfl, f105, by rw [hc.len]; omega, by rw [List.drop_zero, List.take_of_length_le (by rw [hc.len]; exact Nat.le_refl _)]; exact hc⟩
                rw [hml] at h; exact h
              obtain ⟨v, Xq, nq, hc2, hm2, ht2, z, ee, rfl, hz⟩ := decode_pure ml hS hmv (fun r hr => hok r (hin r hr)) (by omega) s104.topX
              rcases hz with ⟨rfl, ql, hql, hD, hz, _⟩ | ⟨rfl, rfl, i2, hi2, hu⟩
              · skip
                refine To.ifF (by kernel_rfl) (by kernel_rfl) ?_
                refine To.exit 2 (by kernel_rfl) ?_
                refine ⟨by simp, ?_⟩
                show To Tryz.prog 4 [1, 1, 1, 1, 1, 1, 1, 1, 1, 1, 1, 1, 1] _ _ _ _
                refine To.seq (by kernel_rfl) ?_
                refine To.region (by kernel_rfl) ?_
                refine Sg.op (some 125) (by kernel_rfl) (jLoadAE (off := 0) (sz := 3) (c := [.int .i64 ((B : Nat) : Int), .int .i64 ((N : Nat) : Int), .int .i64 ((M : Nat) : Int)]) (s104.at 0 rfl) (by simp) rfl (by kernel_rfl)) ?_
                refine Sg.go 1 (by kernel_rfl) ?_
                obtain ⟨_, X106, n107, hc108, hm109, ht110, ⟨rfl, rfl⟩⟩ := (PureC.keep hc2 hm2 ht2 : PureC 16 [.u (.agg [.int .i64 ((B : Nat) : Int), .int .i64 ((N : Nat) : Int), .int .i64 ((M : Nat) : Int)]), vf (.sl (km) (0) 10 (nm) none)] (upd Y km (some (.cells ms false))) (n95) _)
                obtain ⟨H111, hc112, s113⟩ := s104.call hc108 hm109 ht110
                have hm0 := hm0.tr hm109
                have hd := hd.mono hm109
                have ho := ho.mono hm109
                have hg1 := hg1.mono hm109
                have hmv := hmv.mono RecV.mono hm109
                refine Sg.op (some 127) (by kernel_rfl) (jCall (by kernel_rfl) hc112 (by kernel_rfl)) ?_
                rw [hD.data hb8 hB hS hbl hA (fun r hr => hown r (hin r hr)) (fun r hr => hok r (hin r hr)) hql] at hz
                refine Sg.go 5 (by kernel_rfl) ?_
                refine Sg.done (by kernel_rfl) ?_
                show To Tryz.prog 4 [1, 1, 1, 1, 1, 1, 1, 1, 1, 1, 1, 1, 1, 1] _ _ _ _
                refine To.seq (by kernel_rfl) ?_
                refine To.region (by kernel_rfl) ?_
                refine Sg.go 1 (by kernel_rfl) ?_
                refine Sg.op (some 131) (by kernel_rfl) (jBin (b_eqlT .i64 (x := (0 : Int)) (y := (0 : Int)) (by omega)) (by kernel_rfl)) ?_
                refine Sg.go 2 (by kernel_rfl) ?_
                refine Sg.op (some 134) (by kernel_rfl) (jBin (b_eqlT .i64 (x := (0 : Int)) (y := (0 : Int)) (by omega)) (by kernel_rfl)) ?_
                refine Sg.go 3 (by kernel_rfl) ?_
                refine Sg.op (some 138) (by kernel_rfl) (jStr (rowA_mono s113.mono hg1.1) (by kernel_rfl)) ?_
                refine Sg.go 1 (by kernel_rfl) ?_
                refine Sg.op (some 140) (by kernel_rfl) (jStr (rowA_mono s113.mono hd.1) (by kernel_rfl)) ?_
                refine Sg.op (some 141) (by kernel_rfl) (jEqS (a := chars data) (b := chars data) rfl (by kernel_rfl)) ?_
                refine Sg.go 3 (by kernel_rfl) ?_
                refine Sg.op (some 145) (by kernel_rfl) (jStr (rowA_mono s113.mono hz.1) (by kernel_rfl)) ?_
                refine Sg.go 1 (by kernel_rfl) ?_
                refine Sg.op (some 147) (by kernel_rfl) (jStr (rowA_mono s113.mono hd.1) (by kernel_rfl)) ?_
                refine Sg.op (some 148) (by kernel_rfl) (jEqS (a := chars data) (b := chars data) rfl (by kernel_rfl)) ?_
                refine Sg.go 2 (by kernel_rfl) ?_
                refine Sg.done (by kernel_rfl) ?_
                show To Tryz.prog 4 [1, 1, 1, 1, 1, 1, 1, 1, 1, 1, 1, 1, 1, 1, 1] _ _ _ _
                refine To.ret (by kernel_rfl) ?_
                exact ⟨.inr rfl, _, by kernel_rfl, X106, _, s113, hm0, rfl⟩
              · skip
                exfalso
                have e2 : bl[i2]? = some bl[i2] := List.getElem?_eq_getElem (by omega)
                have hb2 := hA i2 _ e2
                have e3 : q1l[i2]? = some q1l[i2] := List.getElem?_eq_getElem (by omega)
                have hd2 := hD1 i2 _ e3
                have hpp := hd2.parts hb8 hS hi2 e2 hb2 (fun r hr => hown r (hfl r hr)) (fun r hr => hok r (hfl r hr))
                have hs2 := hd2.2
                rw [hpp] at hs2
                rw [← hb2.1] at hu
                exact enough hb8 hS hi2 e2 hb2 (fun r hr => hown r (hin r hr)) (fun r hr => hok r (hin r hr)) hs2 rfl (fun e he => drp_sub (fun r hr => (hmem r).2 (List.mem_append.2 (.inr hr))) (dd_key.1 he)) hu
          · skip
            refine To.ifF (by kernel_rfl) (by kernel_rfl) ?_
            refine To.exit 0 (by kernel_rfl) ?_
            refine ⟨by simp, ?_⟩
            show To Tryz.prog 4 [1, 1, 1, 1, 1, 1, 1, 1, 1] _ _ _ _
            refine To.seq (by kernel_rfl) ?_
            refine To.region (by kernel_rfl) ?_
            refine Sg.op (some 82) (by kernel_rfl) (jLoadAE (off := 0) (sz := 3) (c := [.int .i64 ((B : Nat) : Int), .int .i64 ((N : Nat) : Int), .int .i64 ((M : Nat) : Int)]) (s65.at 0 rfl) (by simp) rfl (by kernel_rfl)) ?_
            refine Sg.go 1 (by kernel_rfl) ?_
            obtain ⟨_, X114, n115, hc116, hm117, ht118, rfl⟩ := (PureC.same hc2 hm2 ht2 : PureC 16 [.u (.agg [.int .i64 ((B : Nat) : Int), .int .i64 ((N : Nat) : Int), .int .i64 ((M : Nat) : Int)]), vf (a)] X63 (n48) _)
            obtain ⟨H119, hc120, s121⟩ := s65.call hc116 hm117 ht118
            have hm0 := hm0.tr hm117
            have hlr := hlr.mono RecV.mono hm117
            have hc := hc.mono fun _ _ h => h.mono _ _ _ _ hm117
            have hd := hd.mono hm117
            have ho := ho.mono hm117
            have hrow := rowA_mono hm117 hrow
            have hfv := hfv.mono RecV.mono hm117
            refine Sg.op (some 84) (by kernel_rfl) (jCall (by kernel_rfl) hc120 (by kernel_rfl)) ?_
            refine Sg.go 5 (by kernel_rfl) ?_
            refine Sg.done (by kernel_rfl) ?_
            show To Tryz.prog 4 [1, 1, 1, 1, 1, 1, 1, 1, 1, 1] _ _ _ _
            refine To.seq (by kernel_rfl) ?_
            refine To.seq (by kernel_rfl) ?_
            refine To.region (by kernel_rfl) ?_
            refine Sg.go 1 (by kernel_rfl) ?_
            refine Sg.op (some 88) (by kernel_rfl) (jBin (b_eqlT .i64 (x := (4 : Int)) (y := (4 : Int)) (by omega)) (by kernel_rfl)) ?_
            refine Sg.done (by kernel_rfl) ?_
            show To Tryz.prog 4 [1, 0, 1, 1, 1, 1, 1, 1, 1, 1, 1, 1] _ _ _ _
            refine To.ifT (by kernel_rfl) (by kernel_rfl) ?_
            refine To.seq (by kernel_rfl) ?_
            refine To.region (by kernel_rfl) ?_
            refine Sg.go 1 (by kernel_rfl) ?_
            refine Sg.op (some 90) (by kernel_rfl) (jLen (l := 0) (by kernel_rfl)) ?_
            refine Sg.op (some 91) (by kernel_rfl) (jBin (b_eqlT .i64 (x := (0 : Int)) (y := (0 : Int)) (by omega)) (by kernel_rfl)) ?_
            refine Sg.go 1 (by kernel_rfl) ?_
            refine Sg.done (by kernel_rfl) ?_
            show To Tryz.prog 4 [1, 0, 1, 0, 1, 1, 1, 1, 1, 1, 1, 1, 1, 1] _ _ _ _
            refine To.ret (by kernel_rfl) ?_
            exact ⟨.inr rfl, _, by kernel_rfl, X114, _, s121, hm0, rfl⟩
      · skip
        obtain ⟨_, X122, n123, hc124, hm125, ht126, rfl⟩ := (PureC.same hc3 hm3 ht3 : PureC 8 [.u (.agg [.int .i64 ((B : Nat) : Int), .int .i64 ((N : Nat) : Int), .int .i64 ((M : Nat) : Int)]), vf (fd)] X17 (n18 + 1) _)
        obtain ⟨H127, hc128, s129⟩ := s29.call hc124 hm125 ht126
        have hm0 := hm0.tr hm125
        have ho := ho.mono hm125
        have hd := hd.mono hm125
        refine Sg.op (some 49) (by kernel_rfl) (jCall (by kernel_rfl) hc128 (by kernel_rfl)) ?_
        refine Sg.go 5 (by kernel_rfl) ?_
        refine Sg.done (by kernel_rfl) ?_
        show To Tryz.prog 4 [1, 1, 1, 1, 1] _ _ _ _
        refine To.seq (by kernel_rfl) ?_
        refine To.seq (by kernel_rfl) ?_
        refine To.region (by kernel_rfl) ?_
        refine Sg.go 1 (by kernel_rfl) ?_
        refine Sg.op (some 53) (by kernel_rfl) (jBin (b_neqT .i64 (x := (4 : Int)) (y := (0 : Int)) (by omega)) (by kernel_rfl)) ?_
        refine Sg.go 4 (by kernel_rfl) ?_
        refine Sg.done (by kernel_rfl) ?_
        show To Tryz.prog 4 [1, 0, 1, 1, 1, 1, 1] _ _ _ _
        refine To.ifT (by kernel_rfl) (by kernel_rfl) ?_
        refine To.seq (by kernel_rfl) ?_
        refine To.region (by kernel_rfl) ?_
        refine Sg.go 1 (by kernel_rfl) ?_
        refine Sg.done (by kernel_rfl) ?_
        show To Tryz.prog 4 [1, 0, 1, 0, 1, 1, 1, 1, 1] _ _ _ _
        refine To.ret (by kernel_rfl) ?_
        exact ⟨.inr rfl, _, by kernel_rfl, X122, _, s129, hm0, rfl⟩
end Go.Proofs.YtkimkgbppegkhaaGreat.Cm
