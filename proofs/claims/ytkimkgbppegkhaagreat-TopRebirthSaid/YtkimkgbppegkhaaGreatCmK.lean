/- The clean machine's operations are the true ones' (8): the other builtins, maps; and all together. No program is walked here. -/
import Derived.Test.YtkimkgbppegkhaaGreatCmJ
namespace Go.Proofs.YtkimkgbppegkhaaGreat.Cm
open Go Go.RowKit
section
variable {P : Program} {o : Oper} {ρ : Operand → Value} {ε : Env} {H : Heap} {n : Nat} {w : World} {ef : Ef} {r : Operand → Option V}
theorem s_len {ats : Array TypeId} {t : TypeId} {x : V} {f : F} {v : Value} {ty : TypeId} (R : Rel ε H w) (hv : RelV ε x v) (h0 : ats[0]? = some t) (h : lenB P t x H = some f) :
    ∃ rv, (Builtin.len_ ats ty #[v]).run P w = .ok rv w ∧ RelF ε f rv := by
  unfold lenB at h
  split at h
  · rename_i e hu
    split at h
    · rename_i y
      split at h
      · rename_i l hl
        cases h
        have : ∃ a c, v = .slice a l c := by
          cases y <;> simp only [lenA] at hl <;> first
            | (cases hl; done)
            | skip
          · cases hl; exact ⟨_, _, hv⟩
          · cases hl; obtain ⟨b, K, ad, c, _, e, _⟩ := hv; exact ⟨_, _, e⟩
        obtain ⟨a, c, rfl⟩ := this
        exact ⟨.int .i64 l, by simp [Builtin.len_, h0, run_under hu, goInt], rfl⟩
      · cases h
    · cases h
  · rename_i hu
    split at h
    · rename_i s
      cases h
      have e : v = _ := hv
      subst e
      exact ⟨.int .i64 s.length, by simp [Builtin.len_, h0, run_under hu, goInt]; show ((s.toArray.size : Nat) : Int) = _; simp, rfl⟩
    · cases h
  · rename_i k e hu
    cases h
    exact ⟨.int .i64 k, by simp [Builtin.len_, h0, run_under hu, goInt], rfl⟩
  · rename_i k e hu
    split at h
    · cases h
      have e : v = _ := hv
      subst e
      exact ⟨.int .i64 0, by simp [Builtin.len_, h0, run_under hu, goInt], rfl⟩
    · rename_i id
      split at h
      · rename_i es hes
        cases h
        obtain ⟨b, K, rs, cl, h1, h2, h3⟩ := R.obj id _ hes
        obtain ⟨b', K', h4, e⟩ := hv
        rw [h1] at h4; cases h4
        subst e
        have := h3.length
        simp only [Array.length_toList] at this
        exact ⟨.int .i64 es.length, by simp [Builtin.len_, h0, run_under hu, goInt, getObj, Sem.run, h2, this], rfl⟩
      · cases h
    · cases h
  · cases h
theorem s_cap {ats : Array TypeId} {t : TypeId} {x : V} {f : F} {v : Value} {ty : TypeId} (hv : RelV ε x v) (h0 : ats[0]? = some t) (h : capB P t x = some f) :
    ∃ rv, (Builtin.cap_ ats ty #[v]).run P w = .ok rv w ∧ RelF ε f rv := by
  unfold capB at h
  split at h
  · rename_i e hu
    split at h
    · cases h
      have e : v = _ := hv
      subst e
      exact ⟨.int .i64 0, by simp [Builtin.cap_, h0, run_under hu, goInt], rfl⟩
    · rename_i c
      cases h
      obtain ⟨b, K, ad, c', _, e, _, _, h1⟩ := hv
      subst e
      simp only at h1
      subst h1
      exact ⟨.int .i64 c', by simp [Builtin.cap_, h0, run_under hu, goInt], rfl⟩
    · cases h
  · cases h
theorem s_min {mx : Bool} {args : List V} {vs : List Value} {f : F} {ats : Array TypeId} {ty : TypeId} (hv : All2 (RelV ε) args vs) (h : minA mx args = some f) :
    ∃ rv, ((if mx then Builtin.max_ else Builtin.min_) ats ty vs.toArray).run P w = .ok rv w ∧ RelF ε f rv := by
  unfold minA at h
  split at h
  · rename_i k a
    cases h
    match vs, hv with
    | [v], hv =>
      have e : v = _ := hv.1
      subst e
      cases mx <;> exact ⟨_, rfl, rfl⟩
  · rename_i k a k' b
    split at h
    · rename_i hk
      subst hk
      cases h
      match vs, hv with
      | [v, u], hv =>
        have e : v = _ := hv.1
        have e' : u = _ := hv.2.1
        subst e e'
        cases mx <;> exact ⟨_, rfl, rfl⟩
    · cases h
  · rename_i k a k' b k'' c
    split at h
    · rename_i hk
      obtain ⟨rfl, rfl⟩ := hk
      cases h
      match vs, hv with
      | [v, u, x], hv =>
        have e : v = _ := hv.1
        have e' : u = _ := hv.2.1
        have e'' : x = _ := hv.2.2.1
        subst e e' e''
        cases mx <;> exact ⟨_, rfl, rfl⟩
    · cases h
  · cases h
theorem s_copy {ats : Array TypeId} {t : TypeId} {d x : F} {vd vx : Value} {ty : TypeId} (R : Rel ε H w) (hd : RelF ε d vd) (hx : RelF ε x vx) (h0 : ats[0]? = some t) (h : copyB P t d x H = some ef) :
    ∃ rv w', (Builtin.copy_ ats ty #[vd, vx]).run P w = .ok rv w' ∧ RelV ε ef.1 rv ∧ Step ε H n w ε (app H ef.2.1) (n + ef.2.2) w' := by
  unfold copyB at h
  split at h
  · rename_i id off sz len cap
    obtain ⟨b, K, ad, c, hid, evd, hc, hlc, hK⟩ := hd
    split at h
    · rename_i e he
      have hu := sliceE_spec he
      split at h
      · rename_i sz' m new cs ex hsz hm hnew hcs
        obtain ⟨ie, hie, rfl⟩ := sizeT_spec hsz
        split at h
        · rename_i hq
          obtain ⟨rfl, hq⟩ := hq
          cases h
          obtain ⟨g1, g2, nv, g3, g4⟩ := row_run (P := P) R hnew hm hx
          have g5 := g4 w rfl (min m len) (Nat.min_le_left _ _)
          have g3t := g3.take (min m len * ie.size)
          have hle : min m len * ie.size ≤ m * ie.size := Nat.mul_le_mul_right _ (Nat.min_le_left _ _)
          have hargs : (#[vd, vx] : Array Value)[0]? = some vd ∧ (#[vd, vx] : Array Value)[1]? = some vx := ⟨rfl, rfl⟩
          by_cases hc0 : 0 < c
          · have had := hc hc0
            subst had
            obtain ⟨w', k1, k2⟩ := write_cells (P := P) (n := n) (off := off) R hcs hid g3t (by simp; omega)
            refine ⟨.int .i64 ((min m len : Nat) : Int), w', ?_, rfl, by simpa [app] using k2⟩
            subst evd
            simp only [Builtin.copy_, h0, hargs.1, hargs.2, Sem.run_bind, run_under hu, Result.andThen_ok, g1, run_size hie, Nat.min_def] at g5 k1 ⊢
            simp [g5, k1, goInt]
          · have hl0 : len = 0 := by omega
            have hmin : min m len = 0 := by omega
            rw [hmin] at g5 ⊢
            refine ⟨.int .i64 ((0 : Nat) : Int), w, ?_, rfl, ?_⟩
            · subst evd
              have hn0 : Nat.min m len = 0 := hmin
              simp only [Builtin.copy_, h0, hargs.1, hargs.2, Sem.run_bind, run_under hu, Result.andThen_ok, g1, run_size hie, hn0, g5]
              simp [storeCells, goInt]
            · simp only [app, Nat.zero_mul, List.take_zero, splice_nil, upd_self hcs]
              exact Step.refl R
        · cases h
      · cases h
    · cases h
  · cases h
theorem s_clear {ats : Array TypeId} {t : TypeId} {d : F} {vd : Value} {ty : TypeId} (R : Rel ε H w) (hd : RelF ε d vd) (h0 : ats[0]? = some t) (h : clearB P t d H = some ef) :
    ∃ rv w', (Builtin.clear_ ats ty #[vd]).run P w = .ok rv w' ∧ RelV ε ef.1 rv ∧ Step ε H n w ε (app H ef.2.1) (n + ef.2.2) w' := by
  unfold clearB at h
  split at h
  · rename_i e he
    have hu := sliceE_spec he
    split at h
    · cases h
      have ev : vd = _ := hd
      subst ev
      exact ⟨.tuple #[], w, by simp [Builtin.clear_, h0, run_under hu], ⟨[], rfl, trivial⟩, by simpa [app] using Step.refl R⟩
    · rename_i id off sz len cap
      obtain ⟨b, K, ad, c, hid, evd, hc, hlc, hK⟩ := hd
      split at h
      · rename_i ti cs ex hti hcs
        obtain ⟨i, z, hi, hz, hsz, hby, hzr⟩ := tiOf_spec hti
        split at h
        · rename_i hl0
          cases h
          subst hl0 evd
          exact ⟨.tuple #[], w, by simp [Builtin.clear_, h0, run_under hu], ⟨[], rfl, trivial⟩, by simpa [app] using Step.refl R⟩
        · rename_i hl0
          split at h
          · rename_i hq
            obtain ⟨rfl, q1, q2⟩ := hq
            cases h
            have had := hc (by omega)
            subst had
            have hzz := zeros_rel (hzr ε) len ti.size q1
            have hzl := (hzr ε).length
            simp only [Array.length_toList] at hzl
            obtain ⟨w', k1, k2⟩ := write_cells (P := P) (n := n) (off := off) R hcs hid hzz (by rw [repeatL_len, q1]; exact q2)
            refine ⟨.tuple #[], w', ?_, ⟨[], rfl, trivial⟩, by simpa [app] using k2⟩
            subst evd
            have hzc : (Builtin.zeroCells z.cells len).toList = ((Array.range (len * ti.size)).map (fun i => z.cells[i % z.cells.size]!)).toList := by
              rw [Builtin.zeroCells, show z.cells.size = ti.size by omega]
            cases len with
            | zero => exact absurd rfl hl0
            | succ len =>
              simp only [Builtin.clear_, h0]
              show (do
                let __do_lift ← underlying t
                match __do_lift, (Value.slice (some { block := b, off := off }) (len + 1) c) with
                  | _, Value.map none => pure (Value.tuple #[])
                  | _, Value.slice none _ _ => pure (Value.tuple #[])
                  | _, Value.slice _ 0 _ => pure (Value.tuple #[])
                  | _, Value.map (some r) => do
                    let .map _ clock ← getObj r | do stuck "clear: map expected"; pure (Value.tuple #[])
                    setObj r (Obj.map #[] clock)
                    pure (Value.tuple #[])
                  | TypeDesc.slice elem, Value.slice (some a) n _ => do
                    let __do_lift ← zeroValue elem
                    storeCells a (Builtin.zeroCells __do_lift.cells n).toList
                    pure (Value.tuple #[])
                  | _, _ => do
                    stuck "clear: map or slice expected"
                    pure (Value.tuple #[]) : Sem Value).run P w = _
              simp only [Sem.run_bind, run_under hu, Result.andThen_ok, run_zero hi hz, hzc, k1, Sem.run_pure]
          · cases h
      · cases h
    · cases h
  · cases h
end
end Go.Proofs.YtkimkgbppegkhaaGreat.Cm
