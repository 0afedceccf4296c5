/- The clean machine's operations are the true ones' (7): append, copy, clear. No program is walked here. -/
import Derived.Test.YtkimkgbppegkhaaGreatCmI
import Derived.Laws.Append
namespace Go.Proofs.YtkimkgbppegkhaaGreat.Cm
open Go Go.RowKit
section
variable {P : Program} {o : Oper} {ρ : Operand → Value} {ε : Env} {H : Heap} {n : Nat} {w : World} {ef : Ef} {r : Operand → Option V}
/-- append, where there is room -/
theorem run_append_in {t t' e e' ty : TypeId} {i : TypeInfo} (ht : P.underlying t = some (.slice e)) (ht' : P.underlying t' = some (.slice e')) (hi : P.info? e = some i) {ats : Array TypeId} (h0 : ats[0]? = some t) (h1 : ats[1]? = some t')
    {base : Option Addr} {sLen sCap m : Nat} {x : Value} {new : Array Value} {w' : World} (hx : (Builtin.lenOf x).run P w = .ok m w) (hn : (Builtin.firstCells i.size m x).run P w = .ok new w) (hroom : sLen + m ≤ sCap)
    (hst : (match base with | some a => storeCells (a.add (sLen * i.size)) new.toList | none => (pure () : Sem Unit)).run P w = .ok () w') :
    (Builtin.append_ ats ty #[.slice base sLen sCap, x]).run P w = .ok (.slice base (sLen + m) sCap) w' := by
  cases base with
  | none =>
    simp only [Sem.run_pure] at hst
    cases hst
    simp [Builtin.append_, h0, h1, run_under ht, run_under ht', run_size hi, hx, hroom, hn]
  | some a =>
    simp only at hst
    simp [Builtin.append_, h0, h1, run_under ht, run_under ht', run_size hi, hx, hroom, hn, hst]
/-- append, where there is none -/
theorem run_append_out {t t' e e' ty : TypeId} {i : TypeInfo} {z : Value} (ht : P.underlying t = some (.slice e)) (ht' : P.underlying t' = some (.slice e')) (hi : P.info? e = some i) (hz : i.zero = some z) {ats : Array TypeId} (h0 : ats[0]? = some t) (h1 : ats[1]? = some t')
    {base : Option Addr} {sLen sCap m : Nat} {x : Value} {new old : Array Value} (hx : (Builtin.lenOf x).run P w = .ok m w) (hn : (Builtin.firstCells i.size m x).run P w.drew = .ok new w.drew)
    (ho : (Builtin.firstCells i.size sLen (.slice base sLen sCap)).run P w.drew = .ok old w.drew) (hroom : sCap < sLen + m) (hb : (sLen + m) * i.bytes ≤ 140737488355328) (hpos : 0 < i.bytes) :
    ∃ c, sLen + m ≤ c ∧ (Builtin.append_ ats ty #[.slice base sLen sCap, x]).run P w = .ok (.slice (some ⟨w.heap.size, 0, none⟩) (sLen + m) c) (w.drew.alloc (.cells (old ++ new ++ Builtin.zeroCells z.cells (c - (sLen + m))) e)) := by
  have hle : sLen + m ≤ 140737488355328 := Nat.le_trans (Nat.le_mul_of_pos_right _ hpos) hb
  have hfit := growslice_fits hroom hb
  refine ⟨grownCap w (sLen + m) sCap e, Nat.le_add_right _ _, ?_⟩
  have hn0 : ¬ (sLen + m ≤ sCap) := by omega
  have h63' : ¬ (9223372036854775807 < ((sLen : Int) + (m : Int))) := by omega
  have h48' : ¬ (281474976710656 < Builtin.nextslicecap (sLen + m) sCap * i.bytes) := by omega
  simp [Builtin.append_, h0, h1, run_under ht, run_under ht', sizeOf, typeInfo, zeroValue, hi, hz, hx, hn0, h63', h48', Question.forced, hn, ho, newRow, grownCap]
/-- append of so many zeros, where there is room -/
theorem run_append_zin {t t' e ty : TypeId} {kk : IntKind} {i : TypeInfo} {z : Value} (ht : P.underlying t = some (.slice e)) (ht' : P.underlying t' = some (.int kk)) (hi : P.info? e = some i) (hz : i.zero = some z) {ats : Array TypeId} (h0 : ats[0]? = some t) (h1 : ats[1]? = some t')
    {base : Option Addr} {sLen sCap m : Nat} {k : IntKind} {new : Array Value} {w' : World} (hp1 : 0 < i.size) (hm : m ≤ 140737488355328) (hmb : m * i.bytes ≤ 140737488355328) (hn : (if m * i.size = 0 then (#[] : Array Value) else Builtin.zeroCells z.cells m) = new) (hroom : sLen + m ≤ sCap)
    (hst : (match base with | some a => storeCells (a.add (sLen * i.size)) new.toList | none => (pure () : Sem Unit)).run P w = .ok () w') :
    (Builtin.append_ ats ty #[.slice base sLen sCap, .int k m]).run P w = .ok (.slice base (sLen + m) sCap) w' := by
  have hw : IntKind.i64.wrap (m : Int) = m := by unfold IntKind.wrap IntKind.bits; simp [IntKind.signed]; omega
  have h2 : ¬ ((m : Int) < 0) := by omega
  have h3 : ¬ ((m : Int) * (i.bytes : Int) > 281474976710656) := by
    have : ((m * i.bytes : Nat) : Int) ≤ ((140737488355328 : Nat) : Int) := Int.ofNat_le.2 hmb
    rw [Int.natCast_mul] at this
    omega
  have hap : (if m * i.size = 0 then (pure #[] : Sem (Array Value)) else do pure (Builtin.zeroCells (← zeroValue e).cells m)).run P w = .ok new w := by
    rw [← hn]
    split <;> simp [run_zero hi hz]
  cases base with
  | none =>
    simp only [Sem.run_pure] at hst
    cases hst
    by_cases hq : m * i.size = 0 <;> simp [Builtin.append_, h0, h1, run_under ht, run_under ht', run_size hi, run_info hi, run_zero hi hz, asInt, asIntOf, hw, h2, h3, hroom, hq]
  | some a =>
    simp only at hst
    by_cases hq : m * i.size = 0
    · rw [if_pos hq] at hn
      subst hn
      have h4 : m = 0 := by rcases Nat.mul_eq_zero.1 hq with h | h <;> omega
      subst h4
      have hst' : (Result.ok () w : Result Unit) = .ok () w' := hst
      cases hst'
      have hroom' : sLen ≤ sCap := hroom
      have hst0 : (storeCells (a.add (sLen * i.size)) [] : Sem Unit) = pure () := rfl
      simp [Builtin.append_, h0, h1, run_under ht, run_under ht', run_size hi, run_info hi, run_zero hi hz, asInt, asIntOf, show IntKind.i64.wrap 0 = 0 from by decide, hroom', hst0]
    · rw [if_neg hq] at hn
      have h4 : ¬ (m = 0 ∨ i.size = 0) := fun h => hq (Nat.mul_eq_zero.2 h)
      simp [Builtin.append_, h0, h1, run_under ht, run_under ht', run_size hi, run_info hi, run_zero hi hz, asInt, asIntOf, hw, h2, h3, hroom, h4, hn, hst]
      exact fun h => absurd h hq
theorem run_append_zout {t t' e ty : TypeId} {kk : IntKind} {i : TypeInfo} {z : Value} (ht : P.underlying t = some (.slice e)) (ht' : P.underlying t' = some (.int kk)) (hi : P.info? e = some i) (hz : i.zero = some z) {ats : Array TypeId} (h0 : ats[0]? = some t) (h1 : ats[1]? = some t')
    {base : Option Addr} {sLen sCap m : Nat} {k : IntKind} {new old : Array Value} (hp1 : 0 < i.size) (hmb : m * i.bytes ≤ 140737488355328) (hn : (if m * i.size = 0 then (#[] : Array Value) else Builtin.zeroCells z.cells m) = new)
    (ho : (Builtin.firstCells i.size sLen (.slice base sLen sCap)).run P w.drew = .ok old w.drew) (hroom : sCap < sLen + m) (hb : (sLen + m) * i.bytes ≤ 140737488355328) (hpos : 0 < i.bytes) :
    ∃ c, sLen + m ≤ c ∧ (Builtin.append_ ats ty #[.slice base sLen sCap, .int k m]).run P w = .ok (.slice (some ⟨w.heap.size, 0, none⟩) (sLen + m) c) (w.drew.alloc (.cells (old ++ new ++ Builtin.zeroCells z.cells (c - (sLen + m))) e)) := by
  have hle : sLen + m ≤ 140737488355328 := Nat.le_trans (Nat.le_mul_of_pos_right _ hpos) hb
  have hfit := growslice_fits hroom hb
  refine ⟨grownCap w (sLen + m) sCap e, Nat.le_add_right _ _, ?_⟩
  have hw : IntKind.i64.wrap (m : Int) = m := by unfold IntKind.wrap IntKind.bits; simp [IntKind.signed]; omega
  have h2 : ¬ ((m : Int) < 0) := by omega
  have h3 : ¬ ((m : Int) * (i.bytes : Int) > 281474976710656) := by
    have : ((m * i.bytes : Nat) : Int) ≤ ((140737488355328 : Nat) : Int) := Int.ofNat_le.2 hmb
    rw [Int.natCast_mul] at this
    omega
  have hn0 : ¬ (sLen + m ≤ sCap) := by omega
  have h63' : ¬ (9223372036854775807 < ((sLen : Int) + (m : Int))) := by omega
  have h48' : ¬ (281474976710656 < Builtin.nextslicecap (sLen + m) sCap * i.bytes) := by omega
  by_cases hq : m * i.size = 0
  · rw [if_pos hq] at hn
    subst hn
    have h4 : m = 0 ∨ i.size = 0 := Nat.mul_eq_zero.1 hq
    simp [Builtin.append_, h0, h1, run_under ht, run_under ht', sizeOf, typeInfo, zeroValue, hi, hz, asInt, asIntOf, hw, h2, h3, hn0, h63', h48', h4, Question.forced, ho, newRow, grownCap]
    exact fun h => absurd hq h
  · rw [if_neg hq] at hn
    have h4 : ¬ (m = 0 ∨ i.size = 0) := fun h => hq (Nat.mul_eq_zero.2 h)
    simp [Builtin.append_, h0, h1, run_under ht, run_under ht', sizeOf, typeInfo, zeroValue, hi, hz, asInt, asIntOf, hw, h2, h3, hn0, h63', h48', h4, hn, Question.forced, ho, newRow, grownCap]
    exact fun h => absurd h hq
/-- what is appended, truly -/
structure SrcR (P : Program) (ats : Array TypeId) (ty e : TypeId) (i : TypeInfo) (z : Value) (w : World) (vx : Value) (m : Nat) (nv : List Value) : Prop where
  inn : ∀ (base : Option Addr) (sLen sCap : Nat) (w' : World), sLen + m ≤ sCap → (match base with | some a => storeCells (a.add (sLen * i.size)) nv | none => (pure () : Sem Unit)).run P w = .ok () w' → (Builtin.append_ ats ty #[.slice base sLen sCap, vx]).run P w = .ok (.slice base (sLen + m) sCap) w'
  out : ∀ (base : Option Addr) (sLen sCap : Nat) (old : Array Value), (Builtin.firstCells i.size sLen (.slice base sLen sCap)).run P w.drew = .ok old w.drew → sCap < sLen + m → (sLen + m) * i.bytes ≤ 140737488355328 → 0 < i.bytes →
    ∃ c, sLen + m ≤ c ∧ (Builtin.append_ ats ty #[.slice base sLen sCap, vx]).run P w = .ok (.slice (some ⟨w.heap.size, 0, none⟩) (sLen + m) c) (w.drew.alloc (.cells (old ++ nv.toArray ++ Builtin.zeroCells z.cells (c - (sLen + m))) e))
theorem srcR {ats : Array TypeId} {t t' e ty : TypeId} {ti : TI} {i : TypeInfo} {z : Value} {x : F} {vx : Value} {new : List F} {m : Nat} (R : Rel ε H w) (hx : RelF ε x vx) (ht : P.underlying t = some (.slice e)) (hi : P.info? e = some i) (hz : i.zero = some z) (hsz : i.size = ti.size) (hby : i.bytes = ti.bytes)
    (hzr : ∀ ε, All2 (RelF ε) ti.zero z.cells.toList) (p1 : 0 < ti.size) (p2 : 0 < ti.bytes) (p3 : ti.zero.length = ti.size) (h0 : ats[0]? = some t) (h1 : ats[1]? = some t') (h : srcA P t' ti x H = some (new, m)) : new.length = m * ti.size ∧ ∃ nv, All2 (RelF ε) new nv ∧ SrcR P ats ty e i z w vx m nv := by
  unfold srcA at h
  split at h
  · rename_i e' ht'
    split at h
    · rename_i new' m' hnew hm
      cases h
      obtain ⟨g1, g2, nv, g3, g4⟩ := row_run (P := P) R hnew hm hx
      have g3l := g3.length
      have gn : ∀ w1 : World, w1.heap = w.heap → (Builtin.firstCells i.size m vx).run P w1 = .ok nv.toArray w1 := fun w1 hw => by
        have := g4 w1 hw m (Nat.le_refl _)
        rw [List.take_of_length_le (by omega)] at this
        rw [hsz]; exact this
      exact ⟨g2, nv, g3, fun base sLen sCap w' hr hst => run_append_in ht ht' hi h0 h1 g1 (gn w rfl) hr hst, fun base sLen sCap old ho hr hb hp => run_append_out ht ht' hi hz h0 h1 g1 (gn w.drew rfl) ho hr hb hp⟩
    · cases h
  · rename_i kk ht'
    split at h
    · rename_i k l
      split at h
      · rename_i hq
        obtain ⟨q1, q2⟩ := hq
        cases h
        have ex : vx = .int k ((l.toNat : Nat) : Int) := by
          have e : vx = .int k l := hx
          rw [e]; congr 1; omega
        have hzl := (hzr ε).length
        simp only [Array.length_toList] at hzl
        have hzz := zeros_rel (hzr ε) l.toNat ti.size p3
        have hml : l.toNat ≤ 140737488355328 := Nat.le_trans (Nat.le_mul_of_pos_right _ p2) q2
        have hcell : (if l.toNat * i.size = 0 then (#[] : Array Value) else Builtin.zeroCells z.cells l.toNat) = (Array.range (l.toNat * ti.size)).map (fun i => z.cells[i % z.cells.size]!) := by
          rw [hsz]
          split
          · rename_i h0; simp [h0]
          · rw [Builtin.zeroCells, show z.cells.size = ti.size by omega]
        refine ⟨by rw [repeatL_len, p3], _, hzz, ?_, ?_⟩
        · intro base sLen sCap w' hr hst
          rw [ex]
          exact run_append_zin ht ht' hi hz h0 h1 (by rw [hsz]; exact p1) hml (by rw [hby]; exact q2) hcell hr hst
        · intro base sLen sCap old ho hr hb hp
          rw [ex]
          have := run_append_zout (P := P) (w := w) (ty := ty) (k := k) ht ht' hi hz h0 h1 (by rw [hsz]; exact p1) (m := l.toNat) (by rw [hby]; exact q2) hcell ho hr hb hp
          rw [Array.toArray_toList]
          exact this
      · cases h
    · cases h
  · cases h
theorem splice_nil (cs : List F) (off : Nat) : splice cs off [] = cs := by simp [splice]
theorem upd_self {id : Nat} {ob : O} (h : H id = some ob) : upd H id (some ob) = H := by
  funext i
  by_cases e : i = id
  · subst e; rw [upd_same, h]
  · rw [upd_ne _ _ e]
theorem lenA_row {sz m : Nat} {x : F} {new : List F} (hr : rowA H sz x = some new) (hl : lenA x = some m) : new.length = m * sz := by
  cases x <;> simp only [rowA, lenA] at hr hl <;> first
    | (cases hl; done)
    | skip
  · cases hr; cases hl; simp
  · cases hl
    split at hr
    · split at hr
      · split at hr
        · cases hr; simp; omega
        · cases hr
      · split at hr
        · have := (ints_rel (ε := fun _ => none) hr).length
          simp at this
          omega
        · cases hr
      · cases hr
    · cases hr
theorem s_append {ats : Array TypeId} {t t' : TypeId} {s x : F} {vs vx : Value} {ty : TypeId} (R : Rel ε H w) (hs : RelF ε s vs) (hx : RelF ε x vx) (hf : Free ε n (n + ef.2.2)) (h0 : ats[0]? = some t) (h1 : ats[1]? = some t') (h : appendB P t t' s x H n = some ef) :
    ∃ rv w' ε', (Builtin.append_ ats ty #[vs, vx]).run P w = .ok rv w' ∧ RelV ε' ef.1 rv ∧ Step ε H n w ε' (app H ef.2.1) (n + ef.2.2) w' := by
  unfold appendB at h
  split at h
  · rename_i e he
    have ht := sliceE_spec he
    split at h
    · rename_i ti hti
      obtain ⟨i, z, hi, hz, hsz, hby, hzr⟩ := tiOf_spec hti
      split at h
      · rename_i hpos
        obtain ⟨p1, p2, p3⟩ := hpos
        split at h
        · rename_i new m hsrc
          obtain ⟨g2, nv, g3, SR⟩ := srcR (ty := ty) R hx ht hi hz hsz hby hzr p1 p2 p3 h0 h1 hsrc
          have g3l := g3.length
          -- a new block: what was, what came, zeros
          have out : ∀ {base : Option Addr} {sLen sCap : Nat} {old : List F} {ov : List Value}, vs = .slice base sLen sCap → All2 (RelF ε) old ov → (∀ w1 : World, w1.heap = w.heap → (Builtin.firstCells i.size sLen vs).run P w1 = .ok ov.toArray w1) → sCap < sLen + m →
              (sLen + m) * ti.bytes * 2 ≤ 140737488355328 → old.length = sLen * ti.size → Free ε n (n + 1) →
              ∃ rv w' ε', (Builtin.append_ ats ty #[vs, vx]).run P w = .ok rv w' ∧ RelV ε' (vf (.sl n 0 ti.size (sLen + m) none)) rv ∧ Step ε H n w ε' (upd H n (some (.cells (old ++ new) false))) (n + 1) w' := by
            intro base sLen sCap old ov hvs ho hof hroom hbytes hol hfree
            subst hvs
            obtain ⟨c, c1, c2⟩ := SR.out base sLen sCap ov.toArray (hof w.drew rfl) hroom (by rw [hby]; omega) (by omega)
            have hov := ho.length
            have S := new_cells (n := n) (w' := w.drew.alloc (.cells (ov.toArray ++ nv.toArray ++ Builtin.zeroCells z.cells (c - (sLen + m))) e)) R (hfree n (by omega) (by omega)) (All2.append ho g3) false (Builtin.zeroCells z.cells (c - (sLen + m))).toList (by simp) e (0, 0) (.inl rfl)
              (by
                have e1 : ((ov ++ nv) ++ (Builtin.zeroCells z.cells (c - (sLen + m))).toList).toArray = ov.toArray ++ nv.toArray ++ Builtin.zeroCells z.cells (c - (sLen + m)) := by
                  apply Array.ext'; simp
                rw [e1]
                exact ⟨rfl, rfl, rfl, rfl⟩)
            refine ⟨_, _, _, c2, ⟨w.heap.size, _, _, c, ins_same _ _ _, rfl, fun _ => rfl, c1, ?_⟩, S⟩
            have hzl := (hzr ε).length
            simp only [Array.length_toList] at hzl
            have e2 : (Builtin.zeroCells z.cells (c - (sLen + m))).toList.length = (c - (sLen + m)) * ti.size := by
              rw [Array.length_toList, Builtin.zeroCells, Array.size_map, Array.size_range, hzl, p3]
            show 0 + c * ti.size = (ov ++ nv).length + _
            rw [e2, List.length_append, hov, g3l, hol, g2, ← Nat.add_mul, ← Nat.add_mul, Nat.zero_add]
            congr 1
            omega
          unfold appendA at h
          split at h
          · -- onto nil
            have evs : vs = .slice none 0 0 := hs
            split at h
            · rename_i hm0
              cases h
              subst hm0
              have hnv : nv = [] := List.eq_nil_of_length_eq_zero (by rw [Nat.zero_mul] at g2; omega)
              refine ⟨.slice none 0 0, w, ε, ?_, rfl, by simpa [app] using Step.refl R⟩
              rw [evs]
              exact SR.inn none 0 0 w (Nat.le_refl _) rfl
            · split at h
              · rename_i hm0 hb
                cases h
                have := out (old := []) (ov := []) evs trivial (fun w1 _ => by rw [evs]; simp [Builtin.firstCells]) (by omega) (by simpa using hb) (by simp) hf
                simpa [app] using this
              · cases h
          · rename_i id off sz' len cap
            have hs' := hs
            obtain ⟨b, K, ad, c, hid, evs, hc, hlc, hK⟩ := hs
            split at h
            · rename_i hsz'
              subst hsz'
              split at h
              · rename_i cs ex hcs
                obtain ⟨b', K', rcs, elem, fz, q1, q2, q3, q4, q5, q6⟩ := R.obj id _ hcs
                rw [hid] at q1; cases q1
                have hcl := all2_len q4
                split at h
                · rename_i hle
                  -- what the slice holds
                  obtain ⟨s1, s2, ov, s3, s4⟩ := row_run (P := P) (sz := ti.size) (m := len) (new := (cs.drop off).take (len * ti.size)) (x := .sl id off ti.size len cap) (v := vs) R (by simp [rowA, hcs, hle]) rfl hs'
                  have s3l := s3.length
                  have so : ∀ w1 : World, w1.heap = w.heap → (Builtin.firstCells i.size len vs).run P w1 = .ok ov.toArray w1 := fun w1 hw => by
                    have := s4 w1 hw len (Nat.le_refl _)
                    rw [List.take_of_length_le (by omega)] at this
                    rw [hsz]; exact this
                  -- in place
                  have inp : len + m ≤ c → off + (len + m) * ti.size ≤ cs.length → ∃ rv w' ε', (Builtin.append_ ats ty #[vs, vx]).run P w = .ok rv w' ∧ RelV ε' (vf (.sl id off ti.size (len + m) cap)) rv ∧ Step ε H n w ε' (upd H id (some (.cells (splice cs (off + len * ti.size) new) ex))) (n + 0) w' := by
                    intro hroom hfit
                    have hspl : off + len * ti.size + new.length ≤ cs.length := by rw [g2, Nat.add_assoc, ← Nat.add_mul]; exact hfit
                    by_cases hc0 : 0 < c
                    · have had := hc hc0
                      subst had
                      obtain ⟨w', k1, k2⟩ := write_cells (P := P) (n := n) (off := off + len * ti.size) R hcs hid g3 hspl
                      refine ⟨.slice (some ⟨b, off, none⟩) (len + m) c, w', ε, ?_, ⟨b, K, _, c, hid, rfl, fun _ => rfl, hroom, hK⟩, k2⟩
                      rw [evs]
                      exact SR.inn (some ⟨b, off, none⟩) len c w' hroom (by simp only; rw [addr_add, hsz]; exact k1)
                    · have hm0 : m = 0 := by omega
                      have hl0 : len = 0 := by omega
                      have hnv : nv = [] := List.eq_nil_of_length_eq_zero (by rw [hm0] at g2; simp at g2; rw [g2] at g3l; simpa using g3l)
                      have hnew0 : new = [] := List.eq_nil_of_length_eq_zero (by rw [hm0] at g2; simpa using g2)
                      refine ⟨vs, w, ε, ?_, ?_, ?_⟩
                      · rw [evs]
                        have := SR.inn (some ad) len c w hroom (by rw [hnv]; rfl)
                        rw [hm0, Nat.add_zero] at this
                        exact this
                      · exact ⟨b, K, ad, c, hid, by rw [evs, hm0]; rfl, hc, by omega, hK⟩
                      · rw [hnew0, splice_nil, upd_self hcs]
                        exact Step.refl R
                  simp only at h
                  split at h
                  · rename_i hb
                    split at h
                    · -- a bound that is known
                      rename_i c' 
                      have hcc : c = c' := hK
                      split at h
                      · rename_i hroom
                        split at h
                        · rename_i hfit
                          cases h
                          simpa [app] using inp (by omega) hfit
                        · cases h
                      · rename_i hroom
                        cases h
                        simpa [app] using out evs s3 so (by omega) hb (by simp; omega) hf
                    · have hcc : off + c * ti.size = K := hK
                      split at h
                      · rename_i hfit
                        cases h
                        have : len + m ≤ c := Nat.le_of_mul_le_mul_right (by omega) p1
                        simpa [app] using inp this hfit
                      · rename_i hfit
                        split at h
                        · rename_i hex
                          cases h
                          have := q5 hex
                          have hroom : c < len + m := by
                            rcases Nat.lt_or_ge c (len + m) with h' | h'
                            · exact h'
                            · have := Nat.mul_le_mul_right ti.size h'
                              omega
                          simpa [app] using out evs s3 so hroom hb (by simp; omega) hf
                        · split at h
                          · rename_i hoff
                            cases h
                            subst hoff
                            have e1 : cs.take (len * ti.size) = (cs.drop 0).take (len * ti.size) := by simp
                            have hne : id ≠ n := fun e => by subst e; have := hf id (by omega) (by simp); rw [hid] at this; cases this
                            rcases Nat.lt_or_ge c (len + m) with hroom | hroom
                            · obtain ⟨rv, w', ε', k1, k2, k3⟩ := out evs s3 so hroom hb (by simp; omega) hf
                              refine ⟨rv, w', ε', k1, k2, ?_⟩
                              have := step_drop k3 id (by simp [hid])
                              have e2 : upd (upd H n (some (.cells ((cs.drop 0).take (len * ti.size) ++ new) false))) id none = upd (upd H id none) n (some (.cells (cs.take (len * ti.size) ++ new) false)) := by
                                funext j
                                rw [e1]
                                unfold upd
                                by_cases a1 : j = id
                                · subst a1; simp [hne]
                                · simp [a1]
                              rw [e2] at this
                              simpa [app] using this
                            · -- the block has room beyond what is known
                              have hm1 : 0 < m := by
                                rcases Nat.eq_zero_or_pos m with h' | h'
                                · subst h'; simp at hfit hle; omega
                                · exact h'
                              have had := hc (by omega)
                              subst had
                              have hnl : nv.length = m * ti.size := by omega
                              have hKK : len * ti.size + nv.length ≤ rcs.size := by
                                have := Nat.mul_le_mul_right ti.size hroom
                                rw [Nat.add_mul] at this
                                omega
                              obtain ⟨w', k1, k2, k3⟩ := run_storeCells_any (P := P) (len * ti.size) nv 0 rcs w q2 (by rw [q3]; exact q6) (by simpa using hKK) (all2_one g3)
                              simp only [Nat.add_zero] at k3
                              have hlen : len * ti.size ≤ cs.length := by omega
                              have S := step_rename (n := n) (o' := .cells (cs.take (len * ti.size) ++ new) false) R (hf n (by omega) (by simp)) (by simp [hcs]) hid k2
                                ⟨b, K, _, elem, fz, ins_same _ _ _, k3, by simp; omega, by
                                  have hl1 : (cs.take (len * ti.size) ++ new).length = len * ti.size + nv.length := by simp; omega
                                  rw [hl1]
                                  have e3 : (rcs.toList.take (len * ti.size) ++ nv ++ rcs.toList.drop (len * ti.size + nv.length)).toArray.toList.take (len * ti.size + nv.length) = rcs.toList.take (len * ti.size) ++ nv := by
                                    simp only [List.toList_toArray]
                                    rw [List.take_append_of_le_length (by simp; omega)]
                                    exact List.take_of_length_le (by simp; omega)
                                  rw [e3]
                                  refine All2.append ?_ (g3.mono fun _ _ k => RelF.mono (le_ins (hf n (by omega) (by simp)) _) k)
                                  have := q4.take (len * ti.size)
                                  rw [List.take_take, Nat.min_eq_left hlen] at this
                                  exact this.mono fun _ _ k => RelF.mono (le_ins (hf n (by omega) (by simp)) _) k, by simp, q6⟩
                              refine ⟨.slice (some ⟨b, 0, none⟩) (len + m) c, w', _, ?_, ⟨b, K, _, c, ins_same _ _ _, rfl, fun _ => rfl, hroom, hcc⟩, by simpa [app] using S⟩
                              rw [evs]
                              exact SR.inn (some ⟨b, 0, none⟩) len c w' hroom (by simp only; rw [addr_add, hsz, Nat.zero_add]; exact k1)
                          · cases h
                  · cases h
                · cases h
              · cases h
            · cases h
          · cases h
        · cases h
      · cases h
    · cases h
  · cases h
end
end Go.Proofs.YtkimkgbppegkhaaGreat.Cm
