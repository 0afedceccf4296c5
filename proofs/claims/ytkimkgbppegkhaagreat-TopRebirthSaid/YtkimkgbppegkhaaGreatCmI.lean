/- The clean machine's operations are the true ones' (6): operators, turns of kind, len, cap, min, max. No program is walked here. -/
import Derived.Test.YtkimkgbppegkhaaGreatCmH
import Derived.Laws.BytesString
import Derived.Laws.IdiomStrings
namespace Go.Proofs.YtkimkgbppegkhaaGreat.Cm
open Go Go.RowKit
section
variable {P : Program} {o : Oper} {ρ : Operand → Value} {ε : Env} {H : Heap} {n : Nat} {w : World} {ef : Ef} {r : Operand → Option V}
theorem guard_int (op : BinOp) (t : TypeId) (x y : Operand) (k k' : IntKind) (a b : Int) (w : World) : (eqGuard op t x y (.int k a) (.int k' b)).run P w = .ok () w := by
  unfold eqGuard
  cases op <;> rfl
theorem run_int {op : BinOp} {k : IntKind} {a b : Int} {f : F} (h : intA op k a b = some f) (t : TypeId) (w : World) : ∃ v, (binOp op t (.int k a) (.int k b)).run P w = .ok v w ∧ RelF ε f v := by
  cases op <;> simp only [intA, wrapI_eq, addI_eq, subI_eq, mulI_eq, quoI_eq, remI_eq, eqI_eq, ltI_eq] at h
  case add => cases h; exact ⟨_, by simp [binOp, Op.intArith], rfl⟩
  case sub => cases h; exact ⟨_, by simp [binOp, Op.intArith], rfl⟩
  case mul => cases h; exact ⟨_, by simp [binOp, Op.intArith], rfl⟩
  case quo =>
    split at h
    · cases h
    · rename_i h0; have h0' : b ≠ 0 := by simpa using h0
      cases h; exact ⟨_, by simp [binOp, Op.intDiv, h0'], rfl⟩
  case rem =>
    split at h
    · cases h
    · rename_i h0; have h0' : b ≠ 0 := by simpa using h0
      cases h; exact ⟨_, by simp [binOp, Op.intDiv, h0'], rfl⟩
  case and => rw [bitsA_eq] at h; simp only [bitsZ] at h; cases h; exact ⟨_, by simp [binOp, Op.intBits], rfl⟩
  case or => rw [bitsA_eq] at h; simp only [bitsZ] at h; cases h; exact ⟨_, by simp [binOp, Op.intBits], rfl⟩
  case xor => rw [bitsA_eq] at h; simp only [bitsZ] at h; cases h; exact ⟨_, by simp [binOp, Op.intBits], rfl⟩
  case andNot => rw [bitsA_eq] at h; simp only [bitsZ] at h; cases h; exact ⟨_, by simp [binOp, Op.intBits], rfl⟩
  case shl => cases h
  case shr => cases h
  case eql => cases h; exact ⟨_, by simp [binOp, Op.intCmp], rfl⟩
  case neq => cases h; exact ⟨.bool (a != b), by simp [binOp, Op.intCmp], rfl⟩
  case lss => cases h; exact ⟨_, by simp [binOp, Op.intCmp], rfl⟩
  case leq => cases h; exact ⟨.bool (decide (a ≤ b)), by simp [binOp, Op.intCmp], by show _ = _; congr 1; rw [Bool.eq_iff_iff]; simp⟩
  case gtr => cases h; exact ⟨.bool (decide (a > b)), by simp [binOp, Op.intCmp], rfl⟩
  case geq => cases h; exact ⟨.bool (decide (a ≥ b)), by simp [binOp, Op.intCmp], by show _ = _; congr 1; rw [Bool.eq_iff_iff]; simp⟩
theorem run_shift {op : BinOp} {k k' : IntKind} {a b : Int} {f : F} (h : shiftA op k a b = some f) (t : TypeId) (w : World) : ∃ v, (binOp op t (.int k a) (.int k' b)).run P w = .ok v w ∧ RelF ε f v := by
  unfold shiftA at h
  split at h
  · cases h
  · rename_i m
    have h0 : ¬ ((m : Int) < 0) := by omega
    have hp : (Int.ofNat (Nat.pow 2 (min m k.bits)) : Int) = 2 ^ (min m k.bits) := by
      show ((2 ^ (min m k.bits) : Nat) : Int) = _
      norm_cast
    split at h
    · cases h
      rw [wrapI_eq, mulI_eq, hp]
      exact ⟨_, by simp [binOp, Op.shift, h0], rfl⟩
    · split at h
      · rename_i a
        cases h
        refine ⟨.int k (Int.fdiv (a : Int) (2 ^ (min m k.bits))), by simp [binOp, Op.shift, h0], ?_⟩
        show _ = _
        congr 1
        have : ((2 ^ (min m k.bits) : Nat) : Int) = 2 ^ (min m k.bits) := by norm_cast
        rw [← this, Int.fdiv_eq_ediv_of_nonneg _ (Int.natCast_nonneg _)]
        rfl
      · cases h
        exact ⟨_, by simp [binOp, Op.shift, h0], rfl⟩
    · cases h
/-- what '==' is asked of here is no number -/
theorem eqA_kind {t : TypeId} {u v : U} {c : Bool} (h : eqA P t u v = some c) {a b : Value} (hx : RelU ε u a) (hy : RelU ε v b) :
    (∃ s s', a = .string s ∧ b = .string s' ∧ c = (s.toList == s'.toList)) ∨ ((∀ k i, a ≠ .int k i) ∧ (∀ k i, a ≠ .float k i) ∧ (∀ k i j, a ≠ .complex k i j) ∧ (∀ s, a ≠ .string s)) := by
  cases u with
  | agg l => obtain ⟨l, e, _⟩ := hx; subst e; exact .inr ⟨by simp, by simp, by simp, by simp⟩
  | fn g l => obtain ⟨l, e, _⟩ := hx; subst e; exact .inr ⟨by simp, by simp, by simp, by simp⟩
  | f x =>
    cases x with
    | int k i => simp [eqA] at h
    | str s =>
      cases v with
      | agg l => simp [eqA] at h
      | fn g l => simp [eqA] at h
      | f y =>
        cases y <;> simp only [eqA] at h <;> first
          | cases h
          | skip
        split at h
        · cases h
          exact .inl ⟨_, _, hx, hy, by simp [ByteArray.toList_eq]⟩
        · cases h
    | bool b => have e : a = _ := hx; subst e; exact .inr ⟨by simp, by simp, by simp, by simp⟩
    | ptr0 => have e : a = _ := hx; subst e; exact .inr ⟨by simp, by simp, by simp, by simp⟩
    | sl0 => have e : a = _ := hx; subst e; exact .inr ⟨by simp, by simp, by simp, by simp⟩
    | map0 => have e : a = _ := hx; subst e; exact .inr ⟨by simp, by simp, by simp, by simp⟩
    | nilf => have e : a = _ := hx; subst e; exact .inr ⟨by simp, by simp, by simp, by simp⟩
    | ptr i f => obtain ⟨_, _, _, e⟩ := hx; subst e; exact .inr ⟨by simp, by simp, by simp, by simp⟩
    | map i => obtain ⟨_, _, _, e⟩ := hx; subst e; exact .inr ⟨by simp, by simp, by simp, by simp⟩
    | sl i f s l c => obtain ⟨_, _, _, _, _, e, _⟩ := hx; subst e; exact .inr ⟨by simp, by simp, by simp, by simp⟩
theorem binOp_eql {t : TypeId} {a b : Value} (h1 : ∀ k i, a ≠ .int k i) (h2 : ∀ k i, a ≠ .float k i) (h3 : ∀ k i j, a ≠ .complex k i j) (h4 : ∀ s, a ≠ .string s) :
    binOp .eql t a b = (do pure (.bool (← Op.equal t a b))) ∧ binOp .neq t a b = (do pure (.bool (!(← Op.equal t a b)))) := by
  cases a <;> cases b <;> first
    | exact ⟨rfl, rfl⟩
    | (exfalso; exact h1 _ _ rfl)
    | (exfalso; exact h2 _ _ rfl)
    | (exfalso; exact h3 _ _ _ rfl)
    | (exfalso; exact h4 _ rfl)
theorem eqA_run {t : TypeId} {u v : U} {c : Bool} (h : eqA P t u v = some c) {a b : Value} (hx : RelU ε u a) (hy : RelU ε v b) (w : World) :
    (binOp .eql t a b).run P w = .ok (.bool c) w ∧ (binOp .neq t a b).run P w = .ok (.bool !c) w := by
  rcases eqA_kind h hx hy with ⟨s, s', rfl, rfl, rfl⟩ | ⟨h1, h2, h3, h4⟩
  · exact ⟨rfl, rfl⟩
  · obtain ⟨g1, g2⟩ := binOp_eql (t := t) (b := b) h1 h2 h3 h4
    rw [g1, g2]
    simp only [Sem.run_bind, run_eqA h hx hy w, Result.andThen_ok, Sem.run_pure, and_self]
theorem s_binOp {op : BinOp} {t t' : TypeId} {x y : Operand} (hr : ∀ x u, r x = some u → RelV ε u (ρ x)) (R : Rel ε H w) (ho : o.op = .binOp op t x y t') (h : stepOp P o.op r H n = some ef) : Ok P o ρ ε H n w ef := by
  rw [ho] at h
  simp only [stepOp] at h
  split at h
  · rename_i a b ha hb
    have ra := hr x a ha
    have rb := hr y b hb
    simp only [Option.map_eq_some_iff] at h
    obtain ⟨f, hf, rfl⟩ := h
    unfold binA at hf
    split at hf
    · rename_i k i k' j
      have ea : ρ x = .int k i := ra
      have eb : ρ y = .int k' j := rb
      have key : ∃ v, (binOp op t (.int k i) (.int k' j)).run P w = .ok v w ∧ RelF ε f v := by
        split at hf
        · exact run_shift hf t w
        · exact run_shift hf t w
        · split at hf
          · rename_i hk; rw [kEq_iff] at hk; subst hk; exact run_int hf t w
          · cases hf
      obtain ⟨v, g1, g2⟩ := key
      exact Ok.pure R (rv := v) (by simp only [execOp, ho, ea, eb, Sem.run_bind, guard_int, Result.andThen_ok, g1, Sem.run_pure]) g2
    · rename_i u v _
      split at hf
      · split at hf
        · rename_i c hc
          cases hf
          exact Ok.pure R (rv := .bool c) (by simp only [execOp, ho, Sem.run_bind, run_guard hc ra rb, Result.andThen_ok, (eqA_run hc ra rb w).1, Sem.run_pure]) rfl
        · cases hf
      · split at hf
        · rename_i c hc
          cases hf
          exact Ok.pure R (rv := .bool !c) (by simp only [execOp, ho, Sem.run_bind, run_guard hc ra rb, Result.andThen_ok, (eqA_run hc ra rb w).2, Sem.run_pure]) rfl
        · cases hf
      · cases hf
    · cases hf
  · cases h
theorem ints_rel : ∀ {vs : List Value} {l : List F}, intsA vs = some l → All2 (RelF ε) l vs
  | [], l, h => by simp only [intsA] at h; cases h; trivial
  | v :: vs, l, h => by
    unfold intsA at h
    split at h
    · rename_i heq; cases heq
    · rename_i k n r heq
      cases heq
      split at h
      · rename_i l' hl
        cases h
        exact ⟨rfl, ints_rel hl⟩
      · cases h
    · cases h
/-- a slice's cells, read -/
theorem row_run {sz m : Nat} {x : F} {new : List F} {v : Value} (R : Rel ε H w) (hr : rowA H sz x = some new) (hl : lenA x = some m) (hv : RelF ε x v) :
    (Builtin.lenOf v).run P w = .ok m w ∧ new.length = m * sz ∧ ∃ vs : List Value, All2 (RelF ε) new vs ∧ ∀ w1 : World, w1.heap = w.heap → ∀ k, k ≤ m → (Builtin.firstCells sz k v).run P w1 = .ok (vs.take (k * sz)).toArray w1 := by
  cases x <;> simp only [rowA, lenA] at hr hl <;> first
    | (cases hl; done)
    | skip
  · have e : v = _ := hv
    subst e
    cases hr
    cases hl
    refine ⟨rfl, by simp, [], trivial, fun w1 _ k hk => ?_⟩
    simp [Builtin.firstCells]
  · rename_i id off sz' len cap
    cases hl
    obtain ⟨b, K, ad, c, he, rfl, hc, hlc, hK⟩ := hv
    split at hr
    · rename_i hsz
      subst hsz
      split at hr
      · rename_i cs ex hcs
        split at hr
        · rename_i hle
          cases hr
          obtain ⟨b', K', rcs, elem, fz, h1, h2, h3, h4, h5, h6⟩ := R.obj id _ hcs
          rw [he] at h1; cases h1
          have hlen := all2_len h4
          refine ⟨rfl, by simp; omega, (rcs.toList.drop off).take (m * sz'), ?_, fun w1 hw k hk => ?_⟩
          · have := (h4.drop off).take (m * sz')
            rw [List.drop_take, List.take_take, Nat.min_eq_left (by omega)] at this
            exact this
          · rw [List.take_take, Nat.min_eq_left (Nat.mul_le_mul_right _ hk)]
            have hks : k * sz' ≤ m * sz' := Nat.mul_le_mul_right _ hk
            by_cases hc0 : 0 < c
            · have := hc hc0
              subst this
              simp only [Builtin.firstCells]
              exact run_loadCells_at (by rw [hw]; exact h2) (by omega)
            · have : k = 0 := by omega
              subst this
              simp [Builtin.firstCells, loadCells, loadCellsFrom]
        · cases hr
      · rename_i rcs elem fz hcs
        split at hr
        · rename_i hle
          obtain ⟨b', K', h1, h2, h3⟩ := R.obj id _ hcs
          rw [he] at h1; cases h1
          have hrel := ints_rel (ε := ε) hr
          have hln := hrel.length
          refine ⟨rfl, by simp at hln; omega, (rcs.toList.drop off).take (m * sz'), hrel, fun w1 hw k hk => ?_⟩
          rw [List.take_take, Nat.min_eq_left (Nat.mul_le_mul_right _ hk)]
          have hks : k * sz' ≤ m * sz' := Nat.mul_le_mul_right _ hk
          by_cases hc0 : 0 < c
          · have := hc hc0
            subst this
            simp only [Builtin.firstCells]
            exact run_loadCells_at (by rw [hw]; exact h2) (by omega)
          · have : k = 0 := by omega
            subst this
            simp [Builtin.firstCells, loadCells, loadCellsFrom]
        · cases hr
      · cases hr
    · cases hr
theorem bytes_rel : ∀ (cs : List F) (s : List UInt8) (vs : List Value), bytesA cs = some s → All2 (RelF ε) cs vs → ∃ ns : List Int, vs = ns.map (Value.int .u8) ∧ s = ns.map fun n => UInt8.ofNat n.toNat
  | [], s, [], h, _ => ⟨[], rfl, by simp [bytesA] at h; simp [h]⟩
  | c :: cs, s, v :: vs, h, H => by
    unfold bytesA at h
    split at h
    · rename_i heq; cases heq
    · rename_i k r heq
      cases heq
      split at h
      · rename_i l hl
        cases h
        have e : v = .int .u8 k := H.1
        obtain ⟨ns, h1, h2⟩ := bytes_rel cs l vs hl H.2
        exact ⟨k :: ns, by rw [e, h1]; rfl, by rw [h2]; rfl⟩
      · cases h
    · cases h
  | [], _, _ :: _, _, H => H.elim
  | _ :: _, _, [], _, H => H.elim
theorem fold_bytes : ∀ (ns : List Int) (r : ByteArray), ns.foldl (fun r n => r.push (UInt8.ofNat n.toNat)) r = ⟨r.data ++ (ns.map fun n => UInt8.ofNat n.toNat).toArray⟩
  | [], r => by simp
  | n :: ns, r => by
    simp only [List.foldl_cons, List.map_cons]
    rw [fold_bytes ns]
    simp [ByteArray.push]
theorem s_convert {s d : TypeId} {x : Operand} (hr : ∀ x u, r x = some u → RelV ε u (ρ x)) (R : Rel ε H w) (hf : Free ε n (n + ef.2.2)) (ho : o.op = .convert s d x) (h : stepOp P o.op r H n = some ef) : Ok P o ρ ε H n w ef := by
  rw [ho] at h
  simp only [stepOp] at h
  split at h
  · rename_i ds k k' i hs hd hx
    cases h
    have ea : ρ x = .int k' i := hr x _ hx
    exact Ok.pure R (rv := .int k (k.wrap i)) (by simp only [execOp, ho, ea, convert, Sem.run_bind, run_under hs, run_under hd, Result.andThen_ok, Conv.intToInt, Sem.run_pure]) rfl
  · rename_i e y hs hd hx
    have ra := hr x _ hx
    split at h
    · rename_i he
      split at h
      · rename_i cs hcs
        split at h
        · rename_i l hl
          cases h
          have hlen : ∃ m, lenA y = some m := by
            unfold rowA at hcs
            split at hcs <;> first
              | exact ⟨_, rfl⟩
              | cases hcs
          obtain ⟨m, hm⟩ := hlen
          obtain ⟨_, g2, vs, g3, g4⟩ := row_run (P := P) R hcs hm ra
          have g5 := g4 w rfl m (Nat.le_refl _)
          have g6 := g3.length
          rw [List.take_of_length_le (by omega)] at g5
          refine Ok.pure R (rv := .string ⟨l.toArray⟩) ?_ rfl
          obtain ⟨ns, q1, q2⟩ := bytes_rel cs l vs hl g3
          have this : (convert s d (ρ x)).run P w = .ok (.string ⟨l.toArray⟩) w := by
            cases y <;> simp only [lenA] at hm <;> first
              | (cases hm; done)
              | skip
            · have e : ρ x = _ := ra
              rw [e, run_convert_bytes_string w s d _ none 0 0 hs he hd]
              simp only [rowA] at hcs
              cases hcs
              simp only [bytesA] at hl
              cases hl
              rfl
            · obtain ⟨b, K, ad, c, he', e, hrest⟩ := ra
              cases hm
              rw [e] at g5 ⊢
              simp only [Builtin.firstCells, Nat.mul_one] at g5
              rw [q1] at g5
              rw [run_convert_bytes_string w s d _ _ _ c hs he hd, run_bytesToString w ad _ c ns g5, fold_bytes, q2]
              have he0 : ByteArray.empty.data = #[] := rfl
              rw [he0]
              simp
          simp only [execOp, ho, Sem.run_bind, this, Result.andThen_ok, Sem.run_pure]
        · cases h
      · cases h
    · cases h
  · rename_i e1 e id off sz len cap hs hd hx
    split at h
    · rename_i cs ex he hcs
      split at h
      · rename_i hq
        obtain ⟨rfl, hpos⟩ := hq
        cases h
        obtain ⟨b, K, ad, c, he', ea, hc, hlc, hK⟩ := hr x _ hx
        have had := hc (by omega)
        subst had
        obtain ⟨b', K', rcs, elem, fz, h1, h2, h3, h4, h5, h6⟩ := R.obj id _ hcs
        rw [he'] at h1; cases h1
        have hsh : w.shape? b = some (elem, rcs.size) := by simp [World.shape?, h2]
        obtain ⟨lo, hi⟩ := fz
        let fz' : Nat × Nat := if lo == hi then (rcs.size, rcs.size + 1) else (min lo rcs.size, max hi (rcs.size + 1))
        have hfz : (w.freeze ⟨b, rcs.size, none⟩ 1).heap[b]? = some (.cells rcs elem fz') := by
          simp [World.freeze, Array.getElem?_modify, h2, fz']
        have hwr : WrW w b (w.freeze ⟨b, rcs.size, none⟩ 1) := by
          refine ⟨rfl, rfl, rfl, by simp [World.freeze], fun k hk => ?_⟩
          simp [World.freeze, Array.getElem?_modify, Ne.symm hk]
        have hfro : fz'.1 = fz'.2 ∨ K ≤ fz'.1 := by
          simp only [fz']
          by_cases e0 : lo = hi
          · simp [e0]; omega
          · simp only [beq_iff_eq, e0, if_false]
            simp only at h6
            omega
        have S := step_write (n := n) (o' := .cells cs ex) R (by simp [hcs]) he' hwr ⟨b, K, rcs, elem, fz', he', hfz, h3, h4, h5, hfro⟩
        rw [hs] at hd
        cases hd
        refine ⟨.slice (some ⟨b, off, none⟩) len c, _, ε, .inl ?_, ⟨b, K, _, c, he', rfl, fun _ => rfl, hlc, hK⟩, by simpa [app] using S⟩
        simp only [execOp, ho, ea, convert, Sem.run_bind, run_under hs, Result.andThen_ok, run_under he, beq_self_eq_true, markStringish, run_shape, hsh, run_freeze, Sem.run_pure]
      · cases h
    · cases h
  · rename_i ds e l hs hd hx
    split at h
    · rename_i he
      cases h
      have ea : ρ x = .string ⟨l.toArray⟩ := hr x _ hx
      have hrun := run_bytes_of_string (P := P) w s d e ⟨l.toArray⟩ hs hd he
      have hsz : (⟨l.toArray⟩ : ByteArray).size = l.length := by show l.toArray.size = _; simp
      have hrow : All2 (RelF ε) (ofBytes l) (l.map fun b => Value.int .u8 b.toNat) := by
        refine All2.of_get (by simp [ofBytes]) fun i a b ha hb => ?_
        simp only [ofBytes, List.getElem?_map, Option.map_eq_some_iff] at ha hb
        obtain ⟨u, h1, rfl⟩ := ha
        obtain ⟨u', h2, rfl⟩ := hb
        rw [h1] at h2
        cases h2
        rfl
      have hbr : bytesRow ⟨l.toArray⟩ (grownCap w l.length 0 e) = ((l.map fun b => Value.int .u8 b.toNat) ++ List.replicate (grownCap w l.length 0 e - l.length) (Value.int .u8 0)).toArray := by
        simp [bytesRow, hsz]
      rw [hsz] at hrun
      have S := new_cells (n := n) R (hf n (by omega) (by simp)) hrow false (List.replicate (grownCap w l.length 0 e - l.length) (Value.int .u8 0)) (by simp) e ((bytesRow ⟨l.toArray⟩ (grownCap w l.length 0 e)).size, (bytesRow ⟨l.toArray⟩ (grownCap w l.length 0 e)).size + 1)
        (w' := w.drew.alloc (.cells (bytesRow ⟨l.toArray⟩ (grownCap w l.length 0 e)) e ((bytesRow ⟨l.toArray⟩ (grownCap w l.length 0 e)).size, (bytesRow ⟨l.toArray⟩ (grownCap w l.length 0 e)).size + 1)))
        (by rw [hbr]; simp) (by rw [hbr]; exact ⟨rfl, rfl, rfl, rfl⟩)
      have hcap : l.length ≤ grownCap w l.length 0 e := by
        unfold grownCap Question.cut
        simp only
        exact Nat.le_add_right _ _
      refine ⟨.slice (some ⟨w.heap.size, 0, none⟩) l.length (grownCap w l.length 0 e), w.drew.alloc (.cells (bytesRow ⟨l.toArray⟩ (grownCap w l.length 0 e)) e ((bytesRow ⟨l.toArray⟩ (grownCap w l.length 0 e)).size, (bytesRow ⟨l.toArray⟩ (grownCap w l.length 0 e)).size + 1)), _, .inl (by simp only [execOp, ho, ea, Sem.run_bind, hrun, Result.andThen_ok, Sem.run_pure]), ⟨_, _, _, _, ins_same _ _ _, rfl, fun _ => rfl, hcap, ?_⟩, by simpa [app] using S⟩
      simp
      omega
    · cases h
  · cases h
end
end Go.Proofs.YtkimkgbppegkhaaGreat.Cm
