/- The clean machine's walks of decoding: what is looked at first. -/
import Derived.Test.YtkimkgbppegkhaaGreatGm
namespace Go.Proofs.YtkimkgbppegkhaaGreat.Cm
open Go Go.RowKit Go.Proofs.YtkimkgbppegkhaaGreat.Gf
set_option maxRecDepth 1000000
/-- a symbol: its number, and its row -/
def DrV (X : Heap) (p : Nat × List Nat) (c : List F) : Prop := ∃ g, c = [.int .i64 ((p.1 : Nat) : Int), g] ∧ RowV X g p.2
theorem DrV.mono (X Y : Heap) (p : Nat × List Nat) (c : List F) (hm : Mono X Y) (h : DrV X p c) : DrV Y p c := by
  obtain ⟨g, h1, h2⟩ := h
  exact ⟨g, h1, h2.mono hm⟩
abbrev DropsV := SlV DrV 2
section
variable {P : Program} {H : Heap} {n : Nat} {o : Oper} {r : Operand → Option V}
noncomputable def lkK (P : Program) (o : Oper) (r : Operand → Option V) : Option (Nat × U × U) := match o.op with
  | .lookup t m k false => match P.underlying t, r m, r k with
    | some (.map kt et), some (.u (.f (.map id))), some (.u k) => match unzero P et with
      | some z => guardK (keyT P kt k true) (guardK (keyT P kt k false) (some (id, k, z)))
      | none => none
    | _, _, _ => none
  | _ => none
theorem keyT_any {kt : TypeId} {k : U} {e : Bool} (h1 : keyT P kt k true = true) (h2 : keyT P kt k false = true) : keyT P kt k e = true := by cases e <;> assumption
theorem jLookT {id i : Nat} {es : List (U × U)} {k z v : U} (hh : H id = some (.mp es)) (hf : findA k es 0 = some (some (i, v))) (hk : lkK P o r = some (id, k, z)) : OpJ P o r H n (.u v) H n := by
  unfold lkK at hk
  split at hk
  · rename_i t m k' ho
    split at hk
    · rename_i kt et id' k2 h1 h2 h3
      split at hk
      · rename_i z' hz
        obtain ⟨g1, hk⟩ := guardK_some hk
        obtain ⟨g2, hk⟩ := guardK_some hk
        cases hk
        exact .prim (.u v, [], 0) (by simp only [ho, stepOp, h1, h2, h3, hz, hh]; rw [if_pos (keyT_any g1 g2)]; simp only [hf]; rfl)
      · cases hk
    · cases hk
  · cases hk
theorem jLookF {id : Nat} {es : List (U × U)} {k z : U} (hh : H id = some (.mp es)) (hf : findA k es 0 = some none) (hk : lkK P o r = some (id, k, z)) : OpJ P o r H n (.u z) H n := by
  unfold lkK at hk
  split at hk
  · rename_i t m k' ho
    split at hk
    · rename_i kt et id' k2 h1 h2 h3
      split at hk
      · rename_i z' hz
        obtain ⟨g1, hk⟩ := guardK_some hk
        obtain ⟨g2, hk⟩ := guardK_some hk
        cases hk
        exact .prim (.u z, [], 0) (by simp only [ho, stepOp, h1, h2, h3, hz, hh]; rw [if_pos (keyT_any g1 g2)]; simp only [hf]; rfl)
      · cases hk
    · cases hk
  · cases hk
noncomputable def upK (P : Program) (o : Oper) (r : Operand → Option V) : Option (Nat × U × U) := match o.op with
  | .mapUpdate t m k x => match P.underlying t, r m, r k, r x with
    | some (.map kt _), some (.u (.f (.map id))), some (.u k), some (.u v) => guardK (keyT P kt k true) (guardK (keyT P kt k false) (some (id, k, v)))
    | _, _, _, _ => none
  | _ => none
theorem jUp {id : Nat} {es : List (U × U)} {k v : U} (hh : H id = some (.mp es)) (hf : findA k es 0 = some none) (hk : upK P o r = some (id, k, v)) : OpJ P o r H n undefV (upd H id (some (.mp (es ++ [(k, v)])))) n := by
  unfold upK at hk
  split at hk
  · rename_i t m k' x ho
    split at hk
    · rename_i kt et id' k2 v2 h1 h2 h3 h4
      obtain ⟨g1, hk⟩ := guardK_some hk
      obtain ⟨g2, hk⟩ := guardK_some hk
      cases hk
      exact .prim (undefV, [(id, some (.mp (es ++ [(k, v)])))], 0) (by simp only [ho, stepOp, h1, h2, h3, h4, hh]; rw [if_pos (keyT_any g1 g2)]; simp only [hf])
    · cases hk
  · cases hk
end
theorem jUpM {X H : Heap} {n : Nat} {M : List (Nat × O)} (s : Sep X H n M) (j : Nat) {id : Nat} {es : List (U × U)} {k v : U} (hj : M[j]? = some (id, .mp es)) (hf : findA k es 0 = some none) :
    ∃ H', Sep X H' n (M.set j (id, .mp (es ++ [(k, v)]))) ∧ ∀ (o : Oper) (r : Operand → Option V), upK Tryz.prog o r = some (id, k, v) → OpJ Tryz.prog o r H n undefV H' n :=
  ⟨_, s.set j hj _, fun _ _ hk => jUp (s.at j hj) hf hk⟩
/-- what was seen -/
def seenM (l : List (Nat × List Nat)) : List (U × U) := l.map fun p => (.f (.int .i64 ((p.1 : Nat) : Int)), .f (.bool true))
theorem findA_seen : ∀ (l : List (Nat × List Nat)) (e i : Nat), (∃ p ∈ l, p.1 = e) → ∃ j, findA (.f (.int .i64 ((e : Nat) : Int))) (seenM l) i = some (some (j, .f (.bool true)))
  | [], e, i, h => by simp at h
  | p :: l, e, i, h => by
    simp only [seenM, List.map_cons, findA, if_true]
    by_cases he : (e : Int) = (p.1 : Int)
    · exact ⟨i, by rw [if_pos he]⟩
    · rw [if_neg he]
      refine findA_seen l e (i + 1) ?_
      obtain ⟨q, hq, rfl⟩ := h
      rcases List.mem_cons.1 hq with rfl | hq
      · exact absurd rfl he
      · exact ⟨q, hq, rfl⟩
theorem findA_not : ∀ (l : List (Nat × List Nat)) (e i : Nat), (∀ p ∈ l, p.1 ≠ e) → findA (.f (.int .i64 ((e : Nat) : Int))) (seenM l) i = some none
  | [], e, i, h => rfl
  | p :: l, e, i, h => by
    simp only [seenM, List.map_cons, findA, if_true]
    have := h p (by simp)
    rw [if_neg (by omega)]
    exact findA_not l e (i + 1) fun q hq => h q (by simp [hq])
theorem seenM_snoc (l : List (Nat × List Nat)) (p : Nat × List Nat) : seenM (l ++ [p]) = seenM l ++ [(.f (.int .i64 ((p.1 : Nat) : Int)), .f (.bool true))] := by simp [seenM]
/-- of each number the first one alone -/
def dd (l : List (Nat × List Nat)) : List (Nat × List Nat) := l.foldl (fun acc p => if acc.any (fun q => q.1 == p.1) then acc else acc ++ [p]) []
theorem dd_snoc (l : List (Nat × List Nat)) (p : Nat × List Nat) : dd (l ++ [p]) = if (dd l).any (fun q => q.1 == p.1) then dd l else dd l ++ [p] := by
  unfold dd
  rw [List.foldl_append]
  rfl

theorem wrong_pure {X : Heap} {n : Nat} {e : Nat} (he : e < 16777216) (ht : Top X n) : PureC 53 [vf (.int .i64 ((e : Nat) : Int))] X n fun v X' => v = vf (.bool false) := by
  refine PureC.of_to (by kernel_rfl) ?_
  have s0 := Sep.ini ht
  have hm0 : Mono X X := Mono.rfl
  refine To.seq (by kernel_rfl) ?_
  refine To.region (by kernel_rfl) ?_
  refine Sg.go 1 (by kernel_rfl) ?_
  refine Sg.done (by kernel_rfl) ?_
  show To Tryz.prog 53 [1] _ _ _ _
  refine To.seq (by kernel_rfl) ?_
  refine To.region (by kernel_rfl) ?_
  refine Sg.go 1 (by kernel_rfl) ?_
  refine Sg.op (some 4) (by kernel_rfl) (jBin (b_lssF .i64 (x := ((e : Nat) : Int)) (y := (0 : Int)) (by omega)) (by kernel_rfl)) ?_
  refine Sg.go 2 (by kernel_rfl) ?_
  refine Sg.op (some 7) (by kernel_rfl) (jBin (b_geqF .i64 (x := ((e : Nat) : Int)) (y := (16777216 : Int)) (by omega)) (by kernel_rfl)) ?_
  refine Sg.go 2 (by kernel_rfl) ?_
  refine Sg.done (by kernel_rfl) ?_
  show To Tryz.prog 53 [1, 1] _ _ _ _
  refine To.ret (by kernel_rfl) ?_
  exact ⟨.inr rfl, _, by kernel_rfl, X, _, s0, hm0, rfl⟩
theorem is52 {X : Heap} {n : Nat} {e : Nat} {g : F} (he : e < 16777216) (ht : Top X n) : PureC 52 [.u (.agg [.int .i64 ((e : Nat) : Int), g])] X n fun v X' => v = vf (.bool false) := by
  refine PureC.of_to (by kernel_rfl) ?_
  have s0 := Sep.ini ht
  have hm0 : Mono X X := Mono.rfl
  refine To.seq (by kernel_rfl) ?_
  refine To.region (by kernel_rfl) ?_
  obtain ⟨H1, s2, J3⟩ := jNewM s0 (.cells [.int .i64 ((e : Nat) : Int), g] true)
  refine Sg.op (some 1) (by kernel_rfl) (J3 _ _ (vf (.ptr (n) (0))) (by kernel_rfl)) ?_
  refine Sg.go 1 (by kernel_rfl) ?_
  refine Sg.done (by kernel_rfl) ?_
  show To Tryz.prog 52 [1] _ _ _ _
  refine To.seq (by kernel_rfl) ?_
  refine To.region (by kernel_rfl) ?_
  refine Sg.go 1 (by kernel_rfl) ?_
  refine Sg.op (some 4) (by kernel_rfl) (jLoad (off := 0) (x := .int .i64 ((e : Nat) : Int)) (s2.at 0 rfl) (by kernel_rfl) (by kernel_rfl)) ?_
  obtain ⟨_, X4, n5, hc6, hm7, ht8, rfl⟩ := (wrong_pure he s2.topX : PureC 53 [vf (.int .i64 ((e : Nat) : Int))] X (n + 1) _)
  obtain ⟨H9, hc10, s11⟩ := s2.call hc6 hm7 ht8
  have hm0 := hm0.tr hm7
  refine Sg.op (some 5) (by kernel_rfl) (jCall (by kernel_rfl) hc10 (by kernel_rfl)) ?_
  refine Sg.go 1 (by kernel_rfl) ?_
  refine Sg.done (by kernel_rfl) ?_
  show To Tryz.prog 52 [1, 1] _ _ _ _
  refine To.ret (by kernel_rfl) ?_
  exact ⟨.inr rfl, _, by kernel_rfl, X4, _, s11, hm0, rfl⟩
theorem is54 {X : Heap} {n : Nat} {b e N : Nat} {g : F} (d : List Nat) (hg : RowV X g d) (hb : X b = some (.cells [.int .i64 ((N : Nat) : Int)] true)) (hd : d.length = N) (ht : Top X n) : PureC 54 [.u (.agg [.int .i64 ((e : Nat) : Int), g]), vf (.ptr (b) (0))] X n fun v X' => v = vf (.bool false) := by
  refine PureC.of_to (by kernel_rfl) ?_
  have s0 := Sep.ini ht
  have hm0 : Mono X X := Mono.rfl
  refine To.seq (by kernel_rfl) ?_
  refine To.region (by kernel_rfl) ?_
  obtain ⟨H12, s13, J14⟩ := jNewM s0 (.cells [.int .i64 ((e : Nat) : Int), g] true)
  refine Sg.op (some 2) (by kernel_rfl) (J14 _ _ (vf (.ptr (n) (0))) (by kernel_rfl)) ?_
  refine Sg.go 1 (by kernel_rfl) ?_
  refine Sg.done (by kernel_rfl) ?_
  show To Tryz.prog 54 [1] _ _ _ _
  refine To.seq (by kernel_rfl) ?_
  refine To.region (by kernel_rfl) ?_
  refine Sg.go 1 (by kernel_rfl) ?_
  refine Sg.op (some 5) (by kernel_rfl) (jLoad (off := 1) (x := g) (s13.at 0 rfl) (by kernel_rfl) (by kernel_rfl)) ?_
  refine Sg.op (some 6) (by kernel_rfl) (jLenV (l := d.length) (hg.lenA) (by kernel_rfl)) ?_
  refine Sg.op (some 7) (by kernel_rfl) (jLoad (off := 0) (x := .int .i64 ((N : Nat) : Int)) (s13.mono _ _ hb) (by kernel_rfl) (by kernel_rfl)) ?_
  refine Sg.op (some 8) (by kernel_rfl) (jBin (b_neqF .i64 (x := ((d.length : Nat) : Int)) (y := ((N : Nat) : Int)) (by omega)) (by kernel_rfl)) ?_
  refine Sg.go 1 (by kernel_rfl) ?_
  refine Sg.done (by kernel_rfl) ?_
  show To Tryz.prog 54 [1, 1] _ _ _ _
  refine To.ret (by kernel_rfl) ?_
  exact ⟨.inr rfl, _, by kernel_rfl, X, _, s13, hm0, rfl⟩
theorem index72_none {X : Heap} {n : Nat} {f : F} {g : Nat} {caps : List F} {l : List (Nat × List Nat)} (hr : DropsV X f l) (hlt : l.length < 100000) (hgo : fnOk Tryz.prog g = true) (hg : ∀ (i : Nat) p, l[i]? = some p → ∀ c Y m, DrV Y p c → Mono X Y → Top Y m → PureC g ([.u (.agg c)] ++ caps.map fun x => .u (.f x)) Y m fun v _ => v = vf (.bool false)) (ht : Top X n) : PureC 72 [vf (f), .u (.fn g caps)] X n fun v X' => v = vf (.int .i64 (-1)) := by
  refine PureC.of_to (by kernel_rfl) ?_
  have s0 := Sep.ini ht
  have hm0 : Mono X X := Mono.rfl
  refine To.seq (by kernel_rfl) ?_
  refine To.region (by kernel_rfl) ?_
  refine Sg.go 1 (by kernel_rfl) ?_
  refine Sg.done (by kernel_rfl) ?_
  show To Tryz.prog 72 [1] _ _ _ _
  refine To.seq (by kernel_rfl) ?_
  refine To.seq (by kernel_rfl) ?_
  refine To.region (by kernel_rfl) ?_
  refine Sg.go 1 (by kernel_rfl) ?_
  refine Sg.op (some 7) (by kernel_rfl) (jLenV (l := l.length) (hr.lenA) (by kernel_rfl)) ?_
  refine Sg.go 1 (by kernel_rfl) ?_
  refine Sg.done (by kernel_rfl) ?_
  show To Tryz.prog 72 [1, 0, 1] _ _ _ _
  refine To.block 0 (by kernel_rfl) ?_
  refine To.loop (by kernel_rfl) ?_
  refine ToL.for (l.length) (fun i A Hq nq => ∃ (Y : Heap), AtL A [(0, vf (f)), (1, .u (.fn g caps)), (7, vf (.int .i64 ((l.length : Nat) : Int))), (8, vf (.int .i64 ((i : Nat) : Int)))] ∧ Sep Y Hq nq [] ∧ (Mono X Y) ∧ (DropsV Y f l)) ⟨X, getsL_spec (ts := [0, 1, 7, 8]) (by kernel_rfl), s0, (hm0), (hr)⟩ (fun i A H15 n16 hi hI => ?_) (fun A H15 n16 hI => ?_)
  · skip
    obtain ⟨Y, hT, s17, hm0, hr⟩ := hI
    refine To.keep _ ?_ hT.sub
    have hx : l[i]? = some l[i] := List.getElem?_eq_getElem hi
    obtain ⟨id, off, cap, all, ex, c, rfl, h2, h3, h4, hR⟩ := hr.at hx
    refine To.seq (by kernel_rfl) ?_
    refine To.region (by kernel_rfl) ?_
    refine Sg.op (some 9) (by kernel_rfl) (jBin (b_lssT .i64 (x := ((i : Nat) : Int)) (y := ((l.length : Nat) : Int)) (by omega)) (by kernel_rfl)) ?_
    refine Sg.done (by kernel_rfl) ?_
    show To Tryz.prog 72 [1, 0, 0, 1, 0, 1] _ _ _ _
    refine To.seq (by kernel_rfl) ?_
    refine To.ifT (by kernel_rfl) (by kernel_rfl) ?_
    refine To.skip (by kernel_rfl) ?_
    show To Tryz.prog 72 [1, 1, 0, 0, 1, 0, 1] _ _ _ _
    refine To.seq (by kernel_rfl) ?_
    refine To.block 1 (by kernel_rfl) ?_
    refine To.seq (by kernel_rfl) ?_
    refine To.region (by kernel_rfl) ?_
    refine Sg.go 2 (by kernel_rfl) ?_
    refine Sg.done (by kernel_rfl) ?_
    show To Tryz.prog 72 [1, 0, 0, 1, 1, 0, 0, 1, 0, 1] _ _ _ _
    refine To.seq (by kernel_rfl) ?_
    refine To.region (by kernel_rfl) ?_
    refine Sg.go 3 (by kernel_rfl) ?_
    refine Sg.op (some 14) (by kernel_rfl) (jIdx (id := id) (off := off) (sz := 2) (len := l.length) (k := i) (by omega) (by kernel_rfl)) ?_
    refine Sg.op (some 15) (by kernel_rfl) (jLoadAE (id := id) (off := off + i * 2) (sz := 2) (c := c) (s17.mono _ _ h2) h3 h4 (by kernel_rfl)) ?_
    obtain ⟨_, X18, n19, hc20, hm21, ht22, rfl⟩ := (hg i _ hx _ _ _ hR hm0 s17.topX : PureC g ([.u (.agg (c))] ++ caps.map fun x => .u (.f x)) Y (n16) _)
    obtain ⟨H23, hc24, s25⟩ := s17.call hc20 hm21 ht22
    have hm0 := hm0.tr hm21
    have hr := hr.mono DrV.mono hm21
    refine Sg.op (some 16) (by kernel_rfl) (jCall hgo hc24 (by kernel_rfl)) ?_
    refine Sg.done (by kernel_rfl) ?_
    show To Tryz.prog 72 [1, 1, 0, 0, 1, 1, 0, 0, 1, 0, 1] _ _ _ _
    refine To.ifF (by kernel_rfl) (by kernel_rfl) ?_
    refine To.skip (by kernel_rfl) ?_
    show To Tryz.prog 72 [1, 1, 1, 0, 0, 1, 0, 1] _ _ _ _
    refine To.region (by kernel_rfl) ?_
    refine Sg.op (some 18) (by kernel_rfl) (jBin (b_addN (i) (1) (by omega)) (by kernel_rfl)) ?_
    refine Sg.go 1 (by kernel_rfl) ?_
    refine Sg.done (by kernel_rfl) ?_
    exact .inl ⟨rfl, X18, getsL_spec (ts := [0, 1, 7, 8]) (by kernel_rfl), s25, (hm0), (hr)⟩
  · skip
    obtain ⟨Y, hT, s26, hm0, hr⟩ := hI
    refine To.keep _ ?_ hT.sub
    refine To.seq (by kernel_rfl) ?_
    refine To.region (by kernel_rfl) ?_
    refine Sg.op (some 9) (by kernel_rfl) (jBin (b_lssF .i64 (x := (((l.length) : Nat) : Int)) (y := ((l.length : Nat) : Int)) (by simp)) (by kernel_rfl)) ?_
    refine Sg.done (by kernel_rfl) ?_
    show To Tryz.prog 72 [1, 0, 0, 1, 0, 1] _ _ _ _
    refine To.seq (by kernel_rfl) ?_
    refine To.ifF (by kernel_rfl) (by kernel_rfl) ?_
    refine To.exit 0 (by kernel_rfl) ?_
    refine ⟨by simp, ?_⟩
    show To Tryz.prog 72 [1, 1] _ _ _ _
    refine To.seq (by kernel_rfl) ?_
    refine To.region (by kernel_rfl) ?_
    refine Sg.go 1 (by kernel_rfl) ?_
    refine Sg.done (by kernel_rfl) ?_
    show To Tryz.prog 72 [1, 1, 1] _ _ _ _
    refine To.ret (by kernel_rfl) ?_
    exact ⟨.inr rfl, _, by kernel_rfl, Y, _, s26, hm0, rfl⟩
theorem contains51_none {X : Heap} {n : Nat} {f : F} {g : Nat} {caps : List F} {l : List (Nat × List Nat)} (hr : DropsV X f l) (hlt : l.length < 100000) (hgo : fnOk Tryz.prog g = true) (hg : ∀ (i : Nat) p, l[i]? = some p → ∀ c Y m, DrV Y p c → Mono X Y → Top Y m → PureC g ([.u (.agg c)] ++ caps.map fun x => .u (.f x)) Y m fun v _ => v = vf (.bool false)) (ht : Top X n) : PureC 51 [vf (f), .u (.fn g caps)] X n fun v X' => v = vf (.bool false) := by
  refine PureC.of_to (by kernel_rfl) ?_
  have s0 := Sep.ini ht
  have hm0 : Mono X X := Mono.rfl
  refine To.seq (by kernel_rfl) ?_
  refine To.region (by kernel_rfl) ?_
  refine Sg.go 1 (by kernel_rfl) ?_
  refine Sg.done (by kernel_rfl) ?_
  show To Tryz.prog 51 [1] _ _ _ _
  refine To.seq (by kernel_rfl) ?_
  refine To.region (by kernel_rfl) ?_
  refine Sg.go 2 (by kernel_rfl) ?_
  obtain ⟨_, X27, n28, hc29, hm30, ht31, rfl⟩ := (index72_none hr hlt hgo hg s0.topX : PureC 72 [vf (f), .u (.fn g caps)] X (n) _)
  obtain ⟨H32, hc33, s34⟩ := s0.call hc29 hm30 ht31
  have hm0 := hm0.tr hm30
  refine Sg.op (some 7) (by kernel_rfl) (jCall (by kernel_rfl) hc33 (by kernel_rfl)) ?_
  refine Sg.op (some 8) (by kernel_rfl) (jBin (b_geqF .i64 (x := (-1 : Int)) (y := (0 : Int)) (by omega)) (by kernel_rfl)) ?_
  refine Sg.go 1 (by kernel_rfl) ?_
  refine Sg.done (by kernel_rfl) ?_
  show To Tryz.prog 51 [1, 1] _ _ _ _
  refine To.ret (by kernel_rfl) ?_
  exact ⟨.inr rfl, _, by kernel_rfl, X27, _, s34, hm0, rfl⟩
theorem dd_sub {l : List (Nat × List Nat)} : ∀ {p}, p ∈ dd l → p ∈ l := by
  have : ∀ (l acc : List (Nat × List Nat)) (p : Nat × List Nat), p ∈ l.foldl (fun acc p => if acc.any (fun q => q.1 == p.1) then acc else acc ++ [p]) acc → p ∈ acc ∨ p ∈ l := by
    intro l
    induction l with
    | nil => intro acc p h; exact .inl h
    | cons x l ih =>
      intro acc p h
      rcases ih _ p h with h1 | h1
      · simp only at h1
        split at h1
        · exact .inl h1
        · rcases List.mem_append.1 h1 with h2 | h2
          · exact .inl h2
          · simp at h2; subst h2; exact .inr (by simp)
      · exact .inr (by simp [h1])
  intro p h
  rcases this l [] p h with h1 | h1
  · cases h1
  · exact h1
theorem dd_len (l : List (Nat × List Nat)) : (dd l).length ≤ l.length := by
  have : ∀ (l acc : List (Nat × List Nat)), (l.foldl (fun acc p => if acc.any (fun q => q.1 == p.1) then acc else acc ++ [p]) acc).length ≤ acc.length + l.length := by
    intro l
    induction l with
    | nil => intro acc; simp
    | cons x l ih =>
      intro acc
      refine Nat.le_trans (ih _) ?_
      simp only
      split
      · simp
      · simp; omega
  have h := this l []
  rw [List.length_nil, Nat.zero_add] at h
  exact h
theorem is_snoc (l : List Nat) (x : Nat) : is (l ++ [x]) = is l ++ [.int .i64 ((x : Nat) : Int)] := by simp [is]
theorem dd_mx {N : Nat} {l : List (Nat × List Nat)} (h : ∀ p ∈ l, Rw N p.2) : Mx ((dd l).map (·.1)).length N ((dd l).map (·.2)) := ⟨by simp, fun r hr => by
  obtain ⟨p, hp, rfl⟩ := List.mem_map.1 hr
  exact h p (dd_sub hp)⟩
theorem dblock_pure {X : Heap} {n : Nat} {k N : Nat} {f : F} (l : List (Nat × List Nat)) (h1 : 1 ≤ k) (h8 : k ≤ 8) (hr : DropsV X f l) (hok : ∀ p ∈ l, PartsOk k p.1 ∧ p.1 < 16777216 ∧ Rw N p.2) (hlt : l.length < 5000) (hN0 : 0 < N) (hN : N ≤ 64) (ht : Top X n) : PureC 31 [vf (.int .i64 ((k : Nat) : Int)), vf (.int .i64 ((N : Nat) : Int)), vf (f)] X n fun v X' => ∃ g e, v = .tup [.f g, .f (.int .i64 e)] ∧ ((e = 0 ∧ ∃ cs, RowsV X' g ((List.range k).map fun e => comb N (rowE k e) cs) ∧ Solved (lK k) N (sK k + 2 + ((dd l).map (·.1)).length) (matK k ((dd l).map (·.1))) (besK k N ((dd l).map (·.2))) cs) ∨ (e = 4 ∧ g = .sl0 ∧ Unsolved (lK k) N (sK k + 2 + ((dd l).map (·.1)).length) (matK k ((dd l).map (·.1))) (besK k N ((dd l).map (·.2))))) := by
  refine PureC.of_to (by kernel_rfl) ?_
  have s0 := Sep.ini ht
  have hm0 : Mono X X := Mono.rfl
  have hL := lK_le h8
  refine To.seq (by kernel_rfl) ?_
  refine To.region (by kernel_rfl) ?_
  obtain ⟨H35, s36, J37⟩ := jNewM s0 (.cells [.int .i64 ((N : Nat) : Int)] true)
  refine Sg.op (some 4) (by kernel_rfl) (J37 _ _ (vf (.ptr (n) (0))) (by kernel_rfl)) ?_
  refine Sg.go 2 (by kernel_rfl) ?_
  refine Sg.done (by kernel_rfl) ?_
  show To Tryz.prog 31 [1] _ _ _ _
  refine To.seq (by kernel_rfl) ?_
  refine To.region (by kernel_rfl) ?_
  refine Sg.go 1 (by kernel_rfl) ?_
  obtain ⟨_, X38, n39, hc40, hm41, ht42, rfl⟩ := (of_pure h1 h8 s36.topX : PureC 42 [vf (.int .i64 ((k : Nat) : Int))] X (n + 1) _)
  obtain ⟨H43, hc44, s45⟩ := s36.call hc40 hm41 ht42
  have hm0 := hm0.tr hm41
  have hr := hr.mono DrV.mono hm41
  refine Sg.op (some 19) (by kernel_rfl) (jCall (by kernel_rfl) hc44 (by kernel_rfl)) ?_
  refine Sg.go 3 (by kernel_rfl) ?_
  obtain ⟨H46, s47, J48⟩ := jNewM s45 (.cells [.int .i64 0, .int .i64 0, .int .i64 0] true)
  refine Sg.op (some 8) (by kernel_rfl) (J48 _ _ (vf (.ptr (n39) (0))) (by kernel_rfl)) ?_
  obtain ⟨H49, s50, J51⟩ := jSet (off := 0) (new := [.int .i64 ((k : Nat) : Int), .int .i64 ((sK k : Nat) : Int), .int .i64 2]) (cs' := [.int .i64 ((k : Nat) : Int), .int .i64 ((sK k : Nat) : Int), .int .i64 2]) s47 0 rfl (by simp) rfl
  have s50 : Sep X38 H49 (n39 + 1) [(n39, .cells [.int .i64 ((k : Nat) : Int), .int .i64 ((sK k : Nat) : Int), .int .i64 2] true), (n, .cells [.int .i64 ((N : Nat) : Int)] true)] := s50
  refine Sg.op none (by kernel_rfl) (J51 _ _ (by kernel_rfl)) ?_
  refine Sg.go 1 (by kernel_rfl) ?_
  refine Sg.done (by kernel_rfl) ?_
  show To Tryz.prog 31 [1, 1] _ _ _ _
  refine To.seq (by kernel_rfl) ?_
  refine To.seq (by kernel_rfl) ?_
  refine To.region (by kernel_rfl) ?_
  refine Sg.go 1 (by kernel_rfl) ?_
  refine Sg.op (some 23) (by kernel_rfl) (jBin (b_neqF .i64 (x := (0 : Int)) (y := (0 : Int)) (by omega)) (by kernel_rfl)) ?_
  refine Sg.go 1 (by kernel_rfl) ?_
  refine Sg.op (some 25) (by kernel_rfl) (jLoad (off := 0) (x := .int .i64 ((N : Nat) : Int)) (s50.at 1 rfl) (by kernel_rfl) (by kernel_rfl)) ?_
  refine Sg.op (some 26) (by kernel_rfl) (jBin (b_lssF .i64 (x := ((N : Nat) : Int)) (y := (1 : Int)) (by omega)) (by kernel_rfl)) ?_
  refine Sg.go 2 (by kernel_rfl) ?_
  refine Sg.op (some 29) (by kernel_rfl) (jLoad (off := 0) (x := .int .i64 ((N : Nat) : Int)) (s50.at 1 rfl) (by kernel_rfl) (by kernel_rfl)) ?_
  refine Sg.op (some 30) (by kernel_rfl) (jBin (b_gtrF .i64 (x := ((N : Nat) : Int)) (y := (64 : Int)) (by omega)) (by kernel_rfl)) ?_
  refine Sg.go 3 (by kernel_rfl) ?_
  obtain ⟨_, X52, n53, hc54, hm55, ht56, rfl⟩ := (contains51_none (g := 52) (caps := []) hr (by omega) (by kernel_rfl) (fun i p hp c Y m hc _ ht' => by
      obtain ⟨g, rfl, _⟩ := hc
      exact is52 (hok p (List.mem_of_getElem? hp)).2.1 ht') s50.topX : PureC 51 [vf (f), .u (.fn 52 [])] X38 (n39 + 1) _)
  obtain ⟨H57, hc58, s59⟩ := s50.call hc54 hm55 ht56
  have hm0 := hm0.tr hm55
  have hr := hr.mono DrV.mono hm55
  refine Sg.op (some 34) (by kernel_rfl) (jCall (by kernel_rfl) hc58 (by kernel_rfl)) ?_
  refine Sg.go 1 (by kernel_rfl) ?_
  refine Sg.done (by kernel_rfl) ?_
  show To Tryz.prog 31 [1, 0, 1, 1] _ _ _ _
  refine To.ifF (by kernel_rfl) (by kernel_rfl) ?_
  refine To.skip (by kernel_rfl) ?_
  show To Tryz.prog 31 [1, 1, 1] _ _ _ _
  refine To.seq (by kernel_rfl) ?_
  refine To.seq (by kernel_rfl) ?_
  refine To.region (by kernel_rfl) ?_
  refine Sg.go 2 (by kernel_rfl) ?_
  obtain ⟨_, H60, n61, hc62, hm63, ht64, rfl⟩ := (contains51_none (g := 54) (caps := [.ptr n 0]) (hr.mono DrV.mono s59.mono) (by omega) (by kernel_rfl) (fun i p hp c Y m hc hm' ht' => by
      obtain ⟨g, rfl, hg⟩ := hc
      exact is54 p.2 hg (hm' _ _ (s59.at 1 rfl)) (hok p (List.mem_of_getElem? hp)).2.2.1 ht') s59.top : PureC 51 [vf (f), .u (.fn 54 [.ptr (n) (0)])] H57 (n53) _)
  have s65 := s59.callH hc62 hm63 ht64
  refine Sg.op (some 38) (by kernel_rfl) (jCall (by kernel_rfl) hc62 (by kernel_rfl)) ?_
  refine Sg.done (by kernel_rfl) ?_
  show To Tryz.prog 31 [1, 0, 1, 1, 1] _ _ _ _
  refine To.ifF (by kernel_rfl) (by kernel_rfl) ?_
  refine To.skip (by kernel_rfl) ?_
  show To Tryz.prog 31 [1, 1, 1, 1] _ _ _ _
  refine To.seq (by kernel_rfl) ?_
  refine To.region (by kernel_rfl) ?_
  refine Sg.go 1 (by kernel_rfl) ?_
  obtain ⟨_, X66, n67, hc68, hm69, ht70, rfl⟩ := (find_pure h1 h8 s65.topX : PureC 45 [vf (.int .i64 ((k : Nat) : Int))] X52 (n61) _)
  obtain ⟨H71, hc72, s73⟩ := s65.call hc68 hm69 ht70
  have hm0 := hm0.tr hm69
  have hr := hr.mono DrV.mono hm69
  refine Sg.op (some 41) (by kernel_rfl) (jCall (by kernel_rfl) hc72 (by kernel_rfl)) ?_
  refine Sg.go 5 (by kernel_rfl) ?_
  refine Sg.done (by kernel_rfl) ?_
  show To Tryz.prog 31 [1, 1, 1, 1, 1] _ _ _ _
  refine To.seq (by kernel_rfl) ?_
  refine To.seq (by kernel_rfl) ?_
  refine To.region (by kernel_rfl) ?_
  refine Sg.go 1 (by kernel_rfl) ?_
  refine Sg.op (some 45) (by kernel_rfl) (jBin (b_neqF .i64 (x := (0 : Int)) (y := (0 : Int)) (by omega)) (by kernel_rfl)) ?_
  refine Sg.done (by kernel_rfl) ?_
  show To Tryz.prog 31 [1, 0, 1, 1, 1, 1, 1] _ _ _ _
  refine To.ifF (by kernel_rfl) (by kernel_rfl) ?_
  refine To.skip (by kernel_rfl) ?_
  show To Tryz.prog 31 [1, 1, 1, 1, 1, 1] _ _ _ _
  refine To.seq (by kernel_rfl) ?_
  refine To.region (by kernel_rfl) ?_
  refine Sg.go 1 (by kernel_rfl) ?_
  refine Sg.done (by kernel_rfl) ?_
  show To Tryz.prog 31 [1, 1, 1, 1, 1, 1, 1] _ _ _ _
  refine To.seq (by kernel_rfl) ?_
  refine To.region (by kernel_rfl) ?_
  refine Sg.go 1 (by kernel_rfl) ?_
  refine Sg.done (by kernel_rfl) ?_
  show To Tryz.prog 31 [1, 1, 1, 1, 1, 1, 1, 1] _ _ _ _
  refine To.seq (by kernel_rfl) ?_
  refine To.region (by kernel_rfl) ?_
  obtain ⟨H74, s75, J76⟩ := jNewM s73 (.mp [])
  refine Sg.op (some 47) (by kernel_rfl) (J76 _ _ (vf (.map (n67))) (by kernel_rfl)) ?_
  refine Sg.go 1 (by kernel_rfl) ?_
  refine Sg.done (by kernel_rfl) ?_
  show To Tryz.prog 31 [1, 1, 1, 1, 1, 1, 1, 1, 1] _ _ _ _
  refine To.seq (by kernel_rfl) ?_
  refine To.seq (by kernel_rfl) ?_
  refine To.region (by kernel_rfl) ?_
  refine Sg.go 1 (by kernel_rfl) ?_
  refine Sg.op (some 49) (by kernel_rfl) (jLenV (l := l.length) (hr.lenA) (by kernel_rfl)) ?_
  have hsz : seenM (dd (l.take 0)) = [] := rfl
  refine Sg.go 1 (by kernel_rfl) ?_
  refine Sg.done (by kernel_rfl) ?_
  show To Tryz.prog 31 [1, 0, 1, 1, 1, 1, 1, 1, 1, 1, 1] _ _ _ _
  refine To.block 0 (by kernel_rfl) ?_
  refine To.loop (by kernel_rfl) ?_
  refine ToL.for (l.length) (fun i A Hq nq => ∃ (Y : Heap) (a : F) (fs : List F) (a2 : F) (fs2 : List F), AtL A [(0, vf (.int .i64 ((k : Nat) : Int))), (4, vf (.ptr (n) (0))), (8, vf (.ptr (n39) (0))), (10, vf (.int .i64 0)), (11, vf (a)), (12, vf (a2)), (13, vf (.map (n67))), (48, vf (f)), (49, vf (.int .i64 ((l.length : Nat) : Int))), (50, vf (.int .i64 ((i : Nat) : Int)))] ∧ Sep Y Hq nq ([(n67, .mp (seenM (dd (l.take i)))), (n39, .cells [.int .i64 ((k : Nat) : Int), .int .i64 ((sK k : Nat) : Int), .int .i64 2] true), (n, .cells [.int .i64 ((N : Nat) : Int)] true)] ++ (accM (a) (fs) ++ (accM (a2) (fs2) ++ []))) ∧ (Mono X Y) ∧ (DropsV Y f l) ∧ (AccF 1 a fs) ∧ (fs = is ((dd (l.take i)).map (·.1))) ∧ (AccF 1 a2 fs2) ∧ (All2 (RowV Y) fs2 ((dd (l.take i)).map (·.2)))) ⟨X66, .sl0, [], .sl0, [], getsL_spec (ts := [0, 4, 8, 10, 11, 12, 13, 48, 49, 50]) (by kernel_rfl), s75, (hm0), (hr), (AccF.nil 1), (rfl), (AccF.nil 1), (trivial)⟩ (fun i A H77 n78 hi hI => ?_) (fun A H77 n78 hI => ?_)
  · skip
    obtain ⟨Y, a, fs, a2, fs2, hT, s79, hm0, hr, ha, hc, ha2, hc2⟩ := hI
    refine To.keep _ ?_ hT.sub
    have hx : l[i]? = some l[i] := List.getElem?_eq_getElem hi
    obtain ⟨⟨e, d⟩, hed⟩ : ∃ x, x = l[i] := ⟨_, rfl⟩
    rw [← hed] at hx
    obtain ⟨id, off, cap, all, ex, c, rfl, h2, h3, h4, g, rfl, hR⟩ := hr.at hx
    have hdl := dd_len (l.take i)
    rw [List.length_take] at hdl
    have hl1 : fs.length = (dd (l.take i)).length := by rw [hc, is_len, List.length_map]
    have hl2 : fs2.length = (dd (l.take i)).length := by rw [← hc2.length, List.length_map]
    have htk : l.take (i + 1) = l.take i ++ [(e, d)] := by rw [take_snoc hi, ← hed]
    refine To.seq (by kernel_rfl) ?_
    refine To.region (by kernel_rfl) ?_
    refine Sg.op (some 51) (by kernel_rfl) (jBin (b_lssT .i64 (x := ((i : Nat) : Int)) (y := ((l.length : Nat) : Int)) (by omega)) (by kernel_rfl)) ?_
    refine Sg.done (by kernel_rfl) ?_
    show To Tryz.prog 31 [1, 0, 0, 1, 0, 1, 1, 1, 1, 1, 1, 1, 1, 1] _ _ _ _
    refine To.seq (by kernel_rfl) ?_
    refine To.ifT (by kernel_rfl) (by kernel_rfl) ?_
    refine To.skip (by kernel_rfl) ?_
    show To Tryz.prog 31 [1, 1, 0, 0, 1, 0, 1, 1, 1, 1, 1, 1, 1, 1, 1] _ _ _ _
    refine To.seq (by kernel_rfl) ?_
    refine To.block 1 (by kernel_rfl) ?_
    refine To.seq (by kernel_rfl) ?_
    refine To.region (by kernel_rfl) ?_
    refine Sg.op (some 52) (by kernel_rfl) (jIdx (id := id) (off := off) (sz := 2) (len := l.length) (k := i) (by omega) (by kernel_rfl)) ?_
    refine Sg.op (some 53) (by kernel_rfl) (jLoadAE (id := id) (off := off + i * 2) (sz := 2) (c := [.int .i64 ((e : Nat) : Int), g]) (s79.mono _ _ h2) h3 h4 (by kernel_rfl)) ?_
    cases hany : (dd (l.take i)).any (fun q => q.1 == e)
    · skip
      have hnot : ∀ p ∈ dd (l.take i), p.1 ≠ e := fun p hp h => by rw [List.any_eq_false] at hany; exact hany p hp (by simpa using h)
      have hfind := findA_not (dd (l.take i)) e 0 hnot
      obtain ⟨H80, s81, J82⟩ := jNewM s79 (.cells [.int .i64 0, .sl0] true)
      refine Sg.op (some 15) (by kernel_rfl) (J82 _ _ (vf (.ptr (n78) (0))) (by kernel_rfl)) ?_
      obtain ⟨H83, s84, J85⟩ := jSet (off := 0) (new := [.int .i64 ((e : Nat) : Int), g]) (cs' := [.int .i64 ((e : Nat) : Int), g]) s81 0 rfl (by simp) rfl
      have s84 : Sep Y H83 (n78 + 1) ([(n78, .cells [.int .i64 ((e : Nat) : Int), g] true), (n67, .mp (seenM (dd (l.take i)))), (n39, .cells [.int .i64 ((k : Nat) : Int), .int .i64 ((sK k : Nat) : Int), .int .i64 2] true), (n, .cells [.int .i64 ((N : Nat) : Int)] true)] ++ (accM (a) (fs) ++ (accM (a2) (fs2) ++ []))) := s84
      refine Sg.op none (by kernel_rfl) (J85 _ _ (by kernel_rfl)) ?_
      refine Sg.done (by kernel_rfl) ?_
      show To Tryz.prog 31 [1, 0, 0, 1, 1, 0, 0, 1, 0, 1, 1, 1, 1, 1, 1, 1, 1, 1] _ _ _ _
      refine To.seq (by kernel_rfl) ?_
      refine To.region (by kernel_rfl) ?_
      refine Sg.go 2 (by kernel_rfl) ?_
      refine Sg.op (some 56) (by kernel_rfl) (jLoad (off := 0) (x := .int .i64 ((e : Nat) : Int)) (s84.at 0 rfl) (by kernel_rfl) (by kernel_rfl)) ?_
      refine Sg.op (some 57) (by kernel_rfl) (jLookF (z := .f (.bool false)) (s84.at 1 rfl) hfind (by kernel_rfl)) ?_
      refine Sg.go 1 (by kernel_rfl) ?_
      refine Sg.done (by kernel_rfl) ?_
      show To Tryz.prog 31 [1, 1, 0, 0, 1, 1, 0, 0, 1, 0, 1, 1, 1, 1, 1, 1, 1, 1, 1] _ _ _ _
      refine To.ifT (by kernel_rfl) (by kernel_rfl) ?_
      refine To.seq (by kernel_rfl) ?_
      refine To.region (by kernel_rfl) ?_
      refine Sg.go 2 (by kernel_rfl) ?_
      refine Sg.op (some 61) (by kernel_rfl) (jLoad (off := 0) (x := .int .i64 ((e : Nat) : Int)) (s84.at 0 rfl) (by kernel_rfl) (by kernel_rfl)) ?_
      obtain ⟨H86, s87, J88⟩ := jUpM (v := .f (.bool true)) s84 1 rfl hfind
      have s87 : Sep Y H86 (n78 + 1) ([(n78, .cells [.int .i64 ((e : Nat) : Int), g] true), (n67, .mp (seenM (dd (l.take i) ++ [(e, d)]))), (n39, .cells [.int .i64 ((k : Nat) : Int), .int .i64 ((sK k : Nat) : Int), .int .i64 2] true), (n, .cells [.int .i64 ((N : Nat) : Int)] true)] ++ (accM (a) (fs) ++ (accM (a2) (fs2) ++ []))) := by rw [seenM_snoc]; exact s87
      refine Sg.op none (by kernel_rfl) (J88 _ _ (by kernel_rfl)) ?_
      refine Sg.done (by kernel_rfl) ?_
      show To Tryz.prog 31 [1, 0, 1, 1, 0, 0, 1, 1, 0, 0, 1, 0, 1, 1, 1, 1, 1, 1, 1, 1, 1] _ _ _ _
      refine To.draw [0, 1, 2, 3, 4, 5, 6, 7, 8, 9, 10, 11] progOk (by kernel_rfl) (by kernel_rfl) ?_
      refine Sd.go (L := [2, 3, 4, 5, 6, 7, 8, 9, 10, 11]) [0, 1] (by kernel_rfl) ?_
      refine Sd.read (some 64) (n78) (by kernel_rfl) (by kernel_rfl) (by kernel_rfl) trivial (jLoad (off := 0) (x := .int .i64 ((e : Nat) : Int)) (s87.at 0 rfl) (by kernel_rfl) (by kernel_rfl)) ?_
      obtain ⟨X89, H90, s91, m92, f93, J94⟩ := jNewF s87 (.cells [.int .i64 ((e : Nat) : Int)] true)
      have hm0 := hm0.tr m92
      have hr := hr.mono DrV.mono m92
      have hc2 := hc2.mono fun _ _ q => q.mono m92
      have hR := hR.mono m92
      refine Sd.eff (some 65) (by kernel_rfl) (by kernel_rfl) (J94 _ _ (vf (.sl (n78 + 1) (0) 1 (1) none)) (by kernel_rfl)) ⟨.inl (by kernel_rfl), trivial⟩ ?_
      obtain ⟨a95, H96, n97, ha98, s99, J100⟩ := jAcc (sz := 1) (bytes := 8) (x := .sl (n78 + 1) (0) 1 (1) none) (fs := fs) (new := [.int .i64 ((e : Nat) : Int)]) (M1 := [(n78, .cells [.int .i64 ((e : Nat) : Int), g] true), (n67, .mp (seenM (dd (l.take i) ++ [(e, d)]))), (n39, .cells [.int .i64 ((k : Nat) : Int), .int .i64 ((sK k : Nat) : Int), .int .i64 2] true), (n, .cells [.int .i64 ((N : Nat) : Int)] true)]) (M2 := (accM (a2) (fs2) ++ [])) s91 ha (row_all (s91.mono _ _ f93) rfl) (rfl) (by omega) (by omega)
      refine Sd.eff (some 66) (by kernel_rfl) (by kernel_rfl) (J100 _ _ (by kernel_rfl)) ⟨.inl (by kernel_rfl), trivial⟩ ?_
      refine Sd.go (L := [7, 8, 9, 10, 11]) [5, 6] (by kernel_rfl) ?_
      refine Sd.read (some 69) (n78) (by kernel_rfl) (by kernel_rfl) (by kernel_rfl) ⟨.inr ((s91.at 0 rfl).trans (s99.at 0 rfl).symm), .inr ((s87.at 0 rfl).trans (s91.at 0 rfl).symm), trivial⟩ (jLoad (off := 1) (x := g) (s99.at 0 rfl) (by kernel_rfl) (by kernel_rfl)) ?_
      obtain ⟨X101, H102, s103, m104, f105, J106⟩ := jNewF s99 (.cells [g] true)
      have f107 := m104 _ _ f93
      have hm0 := hm0.tr m104
      have hr := hr.mono DrV.mono m104
      have hc2 := hc2.mono fun _ _ q => q.mono m104
      have hR := hR.mono m104
      refine Sd.eff (some 70) (by kernel_rfl) (by kernel_rfl) (J106 _ _ (vf (.sl (n97) (0) 1 (1) none)) (by kernel_rfl)) ⟨.inl (by kernel_rfl), .inr ((s99.at 0 rfl).trans (s103.at 0 rfl).symm), trivial⟩ ?_
      obtain ⟨a108, H109, n110, ha111, s112, J113⟩ := jAcc (sz := 1) (bytes := 24) (x := .sl (n97) (0) 1 (1) none) (fs := fs2) (new := [g]) (M1 := ([(n78, .cells [.int .i64 ((e : Nat) : Int), g] true), (n67, .mp (seenM (dd (l.take i) ++ [(e, d)]))), (n39, .cells [.int .i64 ((k : Nat) : Int), .int .i64 ((sK k : Nat) : Int), .int .i64 2] true), (n, .cells [.int .i64 ((N : Nat) : Int)] true)] ++ accM (a95) ((fs ++ [.int .i64 ((e : Nat) : Int)])))) (M2 := []) (by simpa using s103) ha2 (row_all (s103.mono _ _ f105) rfl) (rfl) (by omega) (by omega)
      have s112 : Sep X101 H109 n110 ([(n78, .cells [.int .i64 ((e : Nat) : Int), g] true), (n67, .mp (seenM (dd (l.take i) ++ [(e, d)]))), (n39, .cells [.int .i64 ((k : Nat) : Int), .int .i64 ((sK k : Nat) : Int), .int .i64 2] true), (n, .cells [.int .i64 ((N : Nat) : Int)] true)] ++ (accM (a95) ((fs ++ [.int .i64 ((e : Nat) : Int)])) ++ (accM (a108) ((fs2 ++ [g])) ++ []))) := by simpa using s112
      refine Sd.eff (some 71) (by kernel_rfl) (by kernel_rfl) (J113 _ _ (by kernel_rfl)) ⟨.inl (by kernel_rfl), .inl (by kernel_rfl), trivial⟩ ?_
      have hdd : dd (l.take (i + 1)) = dd (l.take i) ++ [(e, d)] := by rw [htk, dd_snoc, if_neg (by rw [hany]; simp)]
      refine Sd.go (L := []) [10, 11] (by kernel_rfl) ?_
      refine Sd.done ?_
      show To Tryz.prog 31 [1, 1, 1, 0, 0, 1, 0, 1, 1, 1, 1, 1, 1, 1, 1, 1] _ _ _ _
      refine To.region (by kernel_rfl) ?_
      refine Sg.op (some 72) (by kernel_rfl) (jBin (b_addN (i) (1) (by omega)) (by kernel_rfl)) ?_
      refine Sg.go 1 (by kernel_rfl) ?_
      refine Sg.done (by kernel_rfl) ?_
      exact .inl ⟨rfl, X101, _, _, _, _, getsL_spec (ts := [0, 4, 8, 10, 11, 12, 13, 48, 49, 50]) (by kernel_rfl), (by rw [hdd]; exact s112.del 0), (hm0), (hr), (ha98), (by rw [hdd, List.map_append, hc]; exact (is_snoc _ _).symm), (ha111), (by rw [hdd, List.map_append]; exact hc2.snoc hR)⟩
    · skip
      have hfind0 := findA_seen (dd (l.take i)) e 0 (by rw [List.any_eq_true] at hany; obtain ⟨p, hp, he⟩ := hany; exact ⟨p, hp, by simpa using he⟩)
      obtain ⟨jf, hfind⟩ := hfind0
      obtain ⟨H114, s115, J116⟩ := jNewM s79 (.cells [.int .i64 0, .sl0] true)
      refine Sg.op (some 15) (by kernel_rfl) (J116 _ _ (vf (.ptr (n78) (0))) (by kernel_rfl)) ?_
      obtain ⟨H117, s118, J119⟩ := jSet (off := 0) (new := [.int .i64 ((e : Nat) : Int), g]) (cs' := [.int .i64 ((e : Nat) : Int), g]) s115 0 rfl (by simp) rfl
      have s118 : Sep Y H117 (n78 + 1) ([(n78, .cells [.int .i64 ((e : Nat) : Int), g] true), (n67, .mp (seenM (dd (l.take i)))), (n39, .cells [.int .i64 ((k : Nat) : Int), .int .i64 ((sK k : Nat) : Int), .int .i64 2] true), (n, .cells [.int .i64 ((N : Nat) : Int)] true)] ++ (accM (a) (fs) ++ (accM (a2) (fs2) ++ []))) := s118
      refine Sg.op none (by kernel_rfl) (J119 _ _ (by kernel_rfl)) ?_
      refine Sg.done (by kernel_rfl) ?_
      show To Tryz.prog 31 [1, 0, 0, 1, 1, 0, 0, 1, 0, 1, 1, 1, 1, 1, 1, 1, 1, 1] _ _ _ _
      refine To.seq (by kernel_rfl) ?_
      refine To.region (by kernel_rfl) ?_
      refine Sg.go 2 (by kernel_rfl) ?_
      refine Sg.op (some 56) (by kernel_rfl) (jLoad (off := 0) (x := .int .i64 ((e : Nat) : Int)) (s118.at 0 rfl) (by kernel_rfl) (by kernel_rfl)) ?_
      refine Sg.op (some 57) (by kernel_rfl) (jLookT (z := .f (.bool false)) (s118.at 1 rfl) hfind (by kernel_rfl)) ?_
      have hdd : dd (l.take (i + 1)) = dd (l.take i) := by rw [htk, dd_snoc, if_pos hany]
      refine Sg.go 1 (by kernel_rfl) ?_
      refine Sg.done (by kernel_rfl) ?_
      show To Tryz.prog 31 [1, 1, 0, 0, 1, 1, 0, 0, 1, 0, 1, 1, 1, 1, 1, 1, 1, 1, 1] _ _ _ _
      refine To.ifF (by kernel_rfl) (by kernel_rfl) ?_
      refine To.skip (by kernel_rfl) ?_
      show To Tryz.prog 31 [1, 1, 1, 0, 0, 1, 0, 1, 1, 1, 1, 1, 1, 1, 1, 1] _ _ _ _
      refine To.region (by kernel_rfl) ?_
      refine Sg.op (some 72) (by kernel_rfl) (jBin (b_addN (i) (1) (by omega)) (by kernel_rfl)) ?_
      refine Sg.go 1 (by kernel_rfl) ?_
      refine Sg.done (by kernel_rfl) ?_
      exact .inl ⟨rfl, Y, _, _, _, _, getsL_spec (ts := [0, 4, 8, 10, 11, 12, 13, 48, 49, 50]) (by kernel_rfl), (by rw [hdd]; exact s118.del 0), (hm0), (hr), (ha), (by rw [hdd]; exact hc), (ha2), (by rw [hdd]; exact hc2)⟩
  · skip
    obtain ⟨Y, a, fs, a2, fs2, hT, s120, hm0, hr, ha, hc, ha2, hc2⟩ := hI
    refine To.keep _ ?_ hT.sub
    refine To.seq (by kernel_rfl) ?_
    refine To.region (by kernel_rfl) ?_
    refine Sg.op (some 51) (by kernel_rfl) (jBin (b_lssF .i64 (x := (((l.length) : Nat) : Int)) (y := ((l.length : Nat) : Int)) (by simp)) (by kernel_rfl)) ?_
    refine Sg.done (by kernel_rfl) ?_
    show To Tryz.prog 31 [1, 0, 0, 1, 0, 1, 1, 1, 1, 1, 1, 1, 1, 1] _ _ _ _
    rw [List.take_length] at hc hc2
    obtain ⟨X121, m122, s123, hrow2, hrow2k⟩ := Sep.acc (sz := 1) (M1 := ([(n67, .mp (seenM (dd (l.take (l.length))))), (n39, .cells [.int .i64 ((k : Nat) : Int), .int .i64 ((sK k : Nat) : Int), .int .i64 2] true), (n, .cells [.int .i64 ((N : Nat) : Int)] true)] ++ accM (a) (fs))) (M2 := []) (a := a2) (fs := fs2) (by simpa using s120) ha2
    have hm0 := hm0.tr m122
    have hr := hr.mono DrV.mono m122
    have hc2 := hc2.mono fun _ _ q => q.mono m122
    have s123 : Sep X121 H77 (n78) ([(n67, .mp (seenM (dd (l.take (l.length))))), (n39, .cells [.int .i64 ((k : Nat) : Int), .int .i64 ((sK k : Nat) : Int), .int .i64 2] true), (n, .cells [.int .i64 ((N : Nat) : Int)] true)] ++ (accM (a) (fs) ++ [])) := by simpa using s123
    obtain ⟨X124, m125, s126, hrow, hrowk⟩ := Sep.acc (sz := 1) (M1 := [(n67, .mp (seenM (dd (l.take (l.length))))), (n39, .cells [.int .i64 ((k : Nat) : Int), .int .i64 ((sK k : Nat) : Int), .int .i64 2] true), (n, .cells [.int .i64 ((N : Nat) : Int)] true)]) (M2 := []) (a := a) (fs := fs) (by simpa using s123) ha
    have hm0 := hm0.tr m125
    have hr := hr.mono DrV.mono m125
    have hc2 := hc2.mono fun _ _ q => q.mono m125
    have hrow2 := rowA_mono m125 hrow2
    have s126 : Sep X124 H77 (n78) [(n67, .mp (seenM (dd (l.take (l.length))))), (n39, .cells [.int .i64 ((k : Nat) : Int), .int .i64 ((sK k : Nat) : Int), .int .i64 2] true), (n, .cells [.int .i64 ((N : Nat) : Int)] true)] := by simpa using s126
    have hdl := dd_len l
    refine To.seq (by kernel_rfl) ?_
    refine To.ifF (by kernel_rfl) (by kernel_rfl) ?_
    refine To.exit 0 (by kernel_rfl) ?_
    refine ⟨by simp, ?_⟩
    show To Tryz.prog 31 [1, 1, 1, 1, 1, 1, 1, 1, 1, 1] _ _ _ _
    refine To.seq (by kernel_rfl) ?_
    refine To.region (by kernel_rfl) ?_
    refine Sg.op (some 74) (by kernel_rfl) (jLoadAE (off := 0) (sz := 3) (c := [.int .i64 ((k : Nat) : Int), .int .i64 ((sK k : Nat) : Int), .int .i64 2]) (s126.at 1 rfl) (by simp) rfl (by kernel_rfl)) ?_
    refine Sg.go 1 (by kernel_rfl) ?_
    refine Sg.op (some 76) (by kernel_rfl) (jLoad (off := 0) (x := .int .i64 ((N : Nat) : Int)) (s126.at 2 rfl) (by kernel_rfl) (by kernel_rfl)) ?_
    refine Sg.go 2 (by kernel_rfl) ?_
    obtain ⟨_, X127, n128, hc129, hm130, ht131, ⟨z, ee, rfl, hz⟩⟩ := (bparts_pure (k := k) (N := N) ((dd l).map (·.1)) ((dd l).map (·.2)) h1 h8 (by rw [hc] at hrow; exact hrow) (fun e he => by obtain ⟨p, hp, rfl⟩ := List.mem_map.1 he; exact (hok p (dd_sub hp)).1) (by simp; omega) ⟨_, hrow2, hc2⟩ (dd_mx fun p hp => (hok p hp).2.2) hN0 (by omega) s126.topX : PureC 46 [.u (.agg [.int .i64 ((k : Nat) : Int), .int .i64 ((sK k : Nat) : Int), .int .i64 2]), vf (.int .i64 0), vf (.int .i64 ((N : Nat) : Int)), vf (a), vf (a2)] X124 (n78) _)
    obtain ⟨H132, hc133, s134⟩ := s126.call hc129 hm130 ht131
    have hm0 := hm0.tr hm130
    have hr := hr.mono DrV.mono hm130
    have hc2 := hc2.mono fun _ _ q => q.mono hm130
    have hrow2 := rowA_mono hm130 hrow2
    have hrow := rowA_mono hm130 hrow
    refine Sg.op (some 79) (by kernel_rfl) (jCall (by kernel_rfl) hc133 (by kernel_rfl)) ?_
    rcases hz with ⟨rfl, cs, hcs, hz⟩ | ⟨rfl, rfl, hz⟩
    · skip
      refine Sg.go 5 (by kernel_rfl) ?_
      refine Sg.done (by kernel_rfl) ?_
      show To Tryz.prog 31 [1, 1, 1, 1, 1, 1, 1, 1, 1, 1, 1] _ _ _ _
      refine To.seq (by kernel_rfl) ?_
      refine To.seq (by kernel_rfl) ?_
      refine To.region (by kernel_rfl) ?_
      refine Sg.go 1 (by kernel_rfl) ?_
      refine Sg.op (some 83) (by kernel_rfl) (jBin (b_neqF .i64 (x := (0 : Int)) (y := (0 : Int)) (by omega)) (by kernel_rfl)) ?_
      refine Sg.done (by kernel_rfl) ?_
      show To Tryz.prog 31 [1, 0, 1, 1, 1, 1, 1, 1, 1, 1, 1, 1, 1] _ _ _ _
      refine To.ifF (by kernel_rfl) (by kernel_rfl) ?_
      refine To.skip (by kernel_rfl) ?_
      show To Tryz.prog 31 [1, 1, 1, 1, 1, 1, 1, 1, 1, 1, 1, 1] _ _ _ _
      refine To.seq (by kernel_rfl) ?_
      refine To.draw [4, 5, 0, 1, 2, 3, 6, 7, 8] progOk (by kernel_rfl) (by kernel_rfl) ?_
      refine Sd.go (L := [5, 0, 1, 2, 3, 6, 7, 8]) [4] (by kernel_rfl) ?_
      obtain ⟨_, X135, n136, hc137, hm138, ht139, ⟨sg, rfl, hsg⟩⟩ := (sources_pure h1 h8 s134.topX : PureC 47 [vf (.int .i64 ((k : Nat) : Int))] X127 (n128) _)
      obtain ⟨H140, hc141, s142⟩ := s134.call hc137 hm138 ht139
      have hm0 := hm0.tr hm138
      have hr := hr.mono DrV.mono hm138
      have hc2 := hc2.mono fun _ _ q => q.mono hm138
      have hrow2 := rowA_mono hm138 hrow2
      have hrow := rowA_mono hm138 hrow
      have hcs := hcs.mono hm138
      refine Sd.eff (some 90) (by kernel_rfl) (by kernel_rfl) (jCall (by kernel_rfl) hc141 (by kernel_rfl)) trivial ?_
      have hcm := hz.mx (besK_mx (k := k) (dd_mx fun p hp => (hok p hp).2.2))
      refine Sd.read (some 85) (n39) (by kernel_rfl) (by kernel_rfl) (by kernel_rfl) ⟨.inr ((s134.at 1 rfl).trans (s142.at 1 rfl).symm), trivial⟩ (jLoadAE (off := 0) (sz := 3) (c := [.int .i64 ((k : Nat) : Int), .int .i64 ((sK k : Nat) : Int), .int .i64 2]) (s142.at 1 rfl) (by simp) rfl (by kernel_rfl)) ?_
      refine Sd.go (L := [2, 3, 6, 7, 8]) [1] (by kernel_rfl) ?_
      refine Sd.read (some 87) (n) (by kernel_rfl) (by kernel_rfl) (by kernel_rfl) ⟨.inr ((s134.at 2 rfl).trans (s142.at 2 rfl).symm), trivial⟩ (jLoad (off := 0) (x := .int .i64 ((N : Nat) : Int)) (s142.at 2 rfl) (by kernel_rfl) (by kernel_rfl)) ?_
      refine Sd.go (L := [6, 7, 8]) [3] (by kernel_rfl) ?_
      obtain ⟨_, X143, n144, hc145, hm146, ht147, ⟨y, rfl, hy⟩⟩ := (drops_pure cs (List.range k) h1 h8 (fun e he => parts_s h1 h8 (by have := List.mem_range.1 he; omega)) (by simp; omega) hcs hsg ⟨hcm.1, hcm.2⟩ hN0 hN s142.topX : PureC 55 [.u (.agg [.int .i64 ((k : Nat) : Int), .int .i64 ((sK k : Nat) : Int), .int .i64 2]), vf (.int .i64 0), vf (.int .i64 ((N : Nat) : Int)), vf (z), vf (sg)] X135 (n136) _)
      obtain ⟨H148, hc149, s150⟩ := s142.call hc145 hm146 ht147
      have hm0 := hm0.tr hm146
      have hr := hr.mono DrV.mono hm146
      have hc2 := hc2.mono fun _ _ q => q.mono hm146
      have hrow2 := rowA_mono hm146 hrow2
      have hrow := rowA_mono hm146 hrow
      have hcs := hcs.mono hm146
      refine Sd.eff (some 91) (by kernel_rfl) (by kernel_rfl) (jCall (by kernel_rfl) hc149 (by kernel_rfl)) ⟨.inl (by kernel_rfl), .inl (by kernel_rfl), trivial⟩ ?_
      refine Sd.go (L := []) [7, 8] (by kernel_rfl) ?_
      refine Sd.done ?_
      show To Tryz.prog 31 [1, 1, 1, 1, 1, 1, 1, 1, 1, 1, 1, 1, 1] _ _ _ _
      refine To.ret (by kernel_rfl) ?_
      exact ⟨.inr rfl, _, by kernel_rfl, X143, _, s150, hm0, _, _, rfl, .inl ⟨rfl, cs, hy, hz⟩⟩
    · skip
      refine Sg.go 5 (by kernel_rfl) ?_
      refine Sg.done (by kernel_rfl) ?_
      show To Tryz.prog 31 [1, 1, 1, 1, 1, 1, 1, 1, 1, 1, 1] _ _ _ _
      refine To.seq (by kernel_rfl) ?_
      refine To.seq (by kernel_rfl) ?_
      refine To.region (by kernel_rfl) ?_
      refine Sg.go 1 (by kernel_rfl) ?_
      refine Sg.op (some 83) (by kernel_rfl) (jBin (b_neqT .i64 (x := (4 : Int)) (y := (0 : Int)) (by omega)) (by kernel_rfl)) ?_
      refine Sg.done (by kernel_rfl) ?_
      show To Tryz.prog 31 [1, 0, 1, 1, 1, 1, 1, 1, 1, 1, 1, 1, 1] _ _ _ _
      refine To.ifT (by kernel_rfl) (by kernel_rfl) ?_
      refine To.seq (by kernel_rfl) ?_
      refine To.region (by kernel_rfl) ?_
      refine Sg.go 3 (by kernel_rfl) ?_
      refine Sg.done (by kernel_rfl) ?_
      show To Tryz.prog 31 [1, 0, 1, 0, 1, 1, 1, 1, 1, 1, 1, 1, 1, 1, 1] _ _ _ _
      refine To.ret (by kernel_rfl) ?_
      exact ⟨.inr rfl, _, by kernel_rfl, X127, _, s134, hm0, _, _, rfl, .inr ⟨rfl, rfl, hz⟩⟩
end Go.Proofs.YtkimkgbppegkhaaGreat.Cm
