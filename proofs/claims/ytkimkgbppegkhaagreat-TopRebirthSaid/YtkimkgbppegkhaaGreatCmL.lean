/- The clean machine's operations are the true ones' (9): maps; and all together. No program is walked here. -/
import Derived.Test.YtkimkgbppegkhaaGreatCmK
namespace Go.Proofs.YtkimkgbppegkhaaGreat.Cm
open Go Go.RowKit
section
variable {P : Program} {o : Oper} {ρ : Operand → Value} {ε : Env} {H : Heap} {n : Nat} {w : World} {ef : Ef} {r : Operand → Option V}
theorem run_getObj {b : Nat} {ob : Obj} (h : w.heap[b]? = some ob) (hn : ∀ c e f, ob ≠ .cells c e f) : (getObj b).run P w = .ok ob w := by
  simp only [getObj, Sem.run, h]
theorem run_check_scalar {t : TypeId} {d : TypeDesc} (hu : P.underlying t = some d) (hd : d = .bool ∨ ∃ k, d = .int k) (e : Bool) (m : Nat) (v : Value) (w : World) : (Instr.checkKey e (m + 1) t v).run P w = .ok () w := by
  simp only [Instr.checkKey, Sem.run_bind, run_under hu, Result.andThen_ok]
  rcases hd with rfl | ⟨k, rfl⟩ <;> rfl
theorem run_check_fields (e : Bool) (m : Nat) : ∀ (fs : List Field) (off : Nat) (ks : List Bool) (X : Array Value), plainFields P fs off = some ks → off + ks.length ≤ X.size → ∀ w : World,
    (forIn fs PUnit.unit (fun f _ => if f.name ≠ "_" then (do
        let v ← part f.type X f.offset
        Instr.checkKey e (m + 1) f.type v
        pure (ForInStep.yield PUnit.unit))
      else pure (ForInStep.yield PUnit.unit)) : Sem PUnit).run P w = .ok PUnit.unit w
  | [], _, _, _, _, _, w => by simp
  | f :: fs, off, ks, X, h, hl, w => by
    simp only [plainFields] at h
    split at h
    · rename_i kb l hk hl'
      simp only [Option.ite_none_right_eq_some, Option.some.injEq] at h
      obtain ⟨⟨hn, ho⟩, rfl⟩ := h
      subst ho
      simp only [List.length_cons] at hl
      have hd : ∃ d, P.underlying f.type = some d ∧ (d = .bool ∨ ∃ k, d = .int k) := by
        split at hk
        · rename_i k hu; exact ⟨_, hu, .inr ⟨k, rfl⟩⟩
        · rename_i hu; exact ⟨_, hu, .inl rfl⟩
        · cases hk
      obtain ⟨d, hu, hd⟩ := hd
      have hx : X[f.offset]? = some X[f.offset] := Array.getElem?_eq_getElem (by omega)
      rw [List.forIn_cons]
      have ih := run_check_fields e m fs (f.offset + 1) l X hl' (by omega) w
      simp only [hn, ne_eq, not_false_eq_true, if_true, Sem.run_bind, part_plain hu hd hx, Result.andThen_ok, run_check_scalar hu hd, Sem.run_pure]
      simpa using ih
    · cases h
theorem plainFields_len : ∀ (fs : List Field) (off : Nat) (ks : List Bool), plainFields P fs off = some ks → ks.length = fs.length
  | [], _, ks, h => by simp only [plainFields] at h; cases h; rfl
  | f :: fs, off, ks, h => by
    simp only [plainFields] at h
    split at h
    · rename_i kb l hk hl
      simp only [Option.ite_none_right_eq_some, Option.some.injEq] at h
      obtain ⟨_, rfl⟩ := h
      simp [plainFields_len fs _ l hl]
    · cases h
theorem run_check_struct {t : TypeId} {fs : Array Field} {ks : List Bool} {e : Bool} {l : List Value} (m : Nat) (hu : P.underlying t = some (.struct fs)) (hf : plainFields P fs.toList 0 = some ks) (hl : ks.length ≤ l.length) (w : World) : (Instr.checkKey e (m + 2) t (.agg l.toArray)).run P w = .ok () w := by
  have := run_check_fields (P := P) e m fs.toList 0 ks l.toArray hf (by simpa using hl) w
  rw [Instr.checkKey]
  simp only [Sem.run_bind, run_under hu, Result.andThen_ok]
  rw [← Array.forIn_toList, this]
  rfl
theorem run_check {t : TypeId} {k : U} {e e' : Bool} {v : Value} (h : keyT P t k e = true) (hv : RelU ε k v) (w : World) : (Instr.checkKey e' 10000 t v).run P w = .ok () w := by
  unfold keyT at h
  split at h
  · split at h
    · rename_i hu
      exact run_check_scalar (m := 9999) hu (.inr ⟨_, rfl⟩) _ _ _
    · cases h
  · rename_i xs
    simp only [Bool.and_eq_true] at h
    obtain ⟨_, h⟩ := h
    split at h
    · rename_i ks hks
      obtain ⟨fs, hu, _, _, hf⟩ := plainT_spec hks
      obtain ⟨l, rfl, hl⟩ := hv
      have hlen := hl.length
      have hxl : xs.length = ks.length := by simpa using h
      exact run_check_struct 9998 hu hf (by omega) w
    · cases h
  · cases h
def FoundRel (ε : Env) : Option (Nat × U) → Option (Nat × Value) → Prop
  | none, none => True
  | some (j, u), some (j', v) => j = j' ∧ RelU ε u v
  | _, _ => False
/-- a key is sought -/
theorem run_findNow {t : TypeId} {d : IntKind} {k : IntKind} {a : Int} : ∀ (es : List (U × U)) (rs : List MapEntry) (i : Nat) (res : Option (Nat × U)), findA (.f (.int k a)) es i = some res →
    All2 (fun (e : U × U) (r : MapEntry) => RelU ε e.1 r.key ∧ RelU ε e.2 r.val) es rs → ∃ rr, Instr.findNow (.int d) (.int k a) rs i = some rr ∧ FoundRel ε res rr
  | [], [], i, res, h, _ => by simp only [findA] at h; cases h; exact ⟨none, rfl, trivial⟩
  | e :: es, x :: rs, i, res, h, H => by
    obtain ⟨ek, ev⟩ := e
    cases ek with
    | agg l => simp [findA] at h
    | fn g l => simp [findA] at h
    | f y =>
      cases y <;> simp only [findA] at h <;> first
        | (cases h; done)
        | skip
      rename_i k' b
      have hk : x.key = .int k' b := H.1.1
      split at h
      · rename_i hkk
        subst hkk
        split at h
        · rename_i hab
          subst hab
          cases h
          exact ⟨some (i, x.val), by simp [Instr.findNow, hk, Instr.sameNow], rfl, H.1.2⟩
        · rename_i hab
          have hab' : (a == b) = false := by simpa using hab
          obtain ⟨rr, g1, g2⟩ := run_findNow (t := t) (d := d) es rs (i + 1) res h H.2
          exact ⟨rr, by simp [Instr.findNow, hk, Instr.sameNow, hab', g1], g2⟩
      · cases h
  | [], _ :: _, _, _, _, H => H.elim
  | _ :: _, [], _, _, _, H => H.elim
theorem run_findKey {t : TypeId} {k : U} {es : List (U × U)} {rs : List MapEntry} {res : Option (Nat × U)} {v : Value} (hk : keyT P t k es.isEmpty = true) (h : findA k es 0 = some res) (hv : RelU ε k v)
    (H : All2 (fun (e : U × U) (r : MapEntry) => RelU ε e.1 r.key ∧ RelU ε e.2 r.val) es rs) (w : World) : ∃ rr, (Instr.findKey t v rs).run P w = .ok rr w ∧ FoundRel ε res rr := by
  have hu : ∃ d, P.underlying t = some d := by
    unfold keyT at hk
    split at hk
    · split at hk
      · rename_i hu; exact ⟨_, hu⟩
      · cases hk
    · simp only [Bool.and_eq_true] at hk
      obtain ⟨_, hk⟩ := hk
      split at hk
      · rename_i ks hks; obtain ⟨fs, hu, _⟩ := plainT_spec hks; exact ⟨_, hu⟩
      · cases hk
    · cases hk
  obtain ⟨d, hu⟩ := hu
  cases es with
  | nil =>
    cases rs with
    | cons _ _ => exact H.elim
    | nil =>
      simp only [findA] at h
      cases h
      exact ⟨none, by simp [Instr.findKey, run_under hu, Instr.findNow], trivial⟩
  | cons e es =>
    unfold keyT at hk
    split at hk
    · rename_i kk a
      split at hk
      · rename_i d' hu'
        have e1 : v = .int kk a := hv
        subst e1
        obtain ⟨rr, g1, g2⟩ := run_findNow (t := t) (d := d') (e :: es) rs 0 res h H
        exact ⟨rr, by simp [Instr.findKey, run_under hu', g1], g2⟩
      · cases hk
    · simp at hk
    · cases hk
theorem s_lookup {t : TypeId} {m k : Operand} {ok : Bool} (hr : ∀ x u, r x = some u → RelV ε u (ρ x)) (R : Rel ε H w) (ho : o.op = .lookup t m k ok) (h : stepOp P o.op r H n = some ef) : Ok P o ρ ε H n w ef := by
  rw [ho] at h
  simp only [stepOp] at h
  split at h
  · rename_i kt et m' k' hu hm hk
    split at h
    · rename_i z es hz hes
      split at h
      · rename_i hkt
        have rk := hr k _ hk
        have rm := hr m _ hm
        have hzz : ∃ i zv, P.info? et = some i ∧ i.zero = some zv ∧ RelU ε z zv := by
          unfold unzero at hz
          split at hz
          · rename_i i hi
            split at hz
            · rename_i zv hzv
              split at hz
              · rename_i u hu'
                cases hz
                exact ⟨i, zv, hi, hzv, ofConst_rel hu' ε⟩
              · cases hz
            · cases hz
          · cases hz
        obtain ⟨i, zv, hi, hzv, hzr⟩ := hzz
        -- the entries, truly
        have ent : ∃ rs : Array MapEntry, All2 (fun (e : U × U) (r : MapEntry) => RelU ε e.1 r.key ∧ RelU ε e.2 r.val) es rs.toList ∧
            (ρ m = .map none ∧ rs = #[] ∨ ∃ b cl, ρ m = .map (some b) ∧ w.heap[b]? = some (.map rs cl)) := by
          split at hes
          · cases hes
            exact ⟨#[], trivial, .inl ⟨rm, rfl⟩⟩
          · rename_i id
            obtain ⟨b, K, hb, e⟩ := rm
            split at hes
            · rename_i es' hobj
              cases hes
              obtain ⟨b', K', rs, cl, h1, h2, h3⟩ := R.obj id _ hobj
              rw [hb] at h1; cases h1
              exact ⟨rs, h3, .inr ⟨b, cl, e, h2⟩⟩
            · cases hes
          · cases hes
        obtain ⟨rs, hrs, hK⟩ := ent
        have fin : ∀ (res : Option (Nat × U)), findA k' es 0 = some res → ∃ rr, (Instr.findKey kt (ρ k) rs.toList).run P w = .ok rr w ∧ FoundRel ε res rr :=
          fun res hres => run_findKey hkt hres rk hrs w
        have hck : ∀ e', (Instr.checkKey e' 10000 kt (ρ k)).run P w = .ok () w := fun e' => run_check hkt rk w
        have tail : ∀ (u : U) (v : Value) (b : Bool), RelU ε u v → (Instr.lookup t (ρ m) (ρ k) ok).run P w = .ok (if ok then .tuple #[v, .bool b] else v) w → Ok P o ρ ε H n w (if ok then .tup [u, .f (.bool b)] else .u u, [], 0) := by
          intro u v b huv hrun
          refine Ok.pure R (rv := if ok then .tuple #[v, .bool b] else v) (by simp only [execOp, ho, Sem.run_bind, hrun, Result.andThen_ok, Sem.run_pure]) ?_
          cases ok with
          | true => exact ⟨[v, .bool b], rfl, huv, rfl, trivial⟩
          | false => exact huv
        have run : ∀ (rr : Option (Nat × Value)) (v : Value) (b : Bool), (Instr.findKey kt (ρ k) rs.toList).run P w = .ok rr w → (match rr with | some (_, v') => v' = v ∧ b = true | none => v = zv ∧ b = false) → (Instr.lookup t (ρ m) (ρ k) ok).run P w = .ok (if ok then .tuple #[v, .bool b] else v) w := by
          intro rr v b h1 h2
          rcases hK with ⟨e, rfl⟩ | ⟨bl, cl, e, hb⟩
          · cases rr with
            | some p =>
              obtain ⟨j, v'⟩ := p
              obtain ⟨rfl, rfl⟩ := h2
              simp only [Instr.lookup, e, Sem.run_bind, run_under hu, Result.andThen_ok, Sem.run_pure, hck, h1]
            | none =>
              obtain ⟨rfl, rfl⟩ := h2
              simp only [Instr.lookup, e, Sem.run_bind, run_under hu, Result.andThen_ok, Sem.run_pure, hck, h1, run_zero hi hzv]
          · have hg := run_getObj (P := P) hb (by simp)
            cases rr with
            | some p =>
              obtain ⟨j, v'⟩ := p
              obtain ⟨rfl, rfl⟩ := h2
              simp only [Instr.lookup, e, Sem.run_bind, run_under hu, Result.andThen_ok, Sem.run_pure, hg, hck, h1]
            | none =>
              obtain ⟨rfl, rfl⟩ := h2
              simp only [Instr.lookup, e, Sem.run_bind, run_under hu, Result.andThen_ok, Sem.run_pure, hg, hck, h1, run_zero hi hzv]
        split at h
        · rename_i j u hres
          cases h
          obtain ⟨rr, g1, g2⟩ := fin _ hres
          cases rr with
          | none => exact g2.elim
          | some p =>
            obtain ⟨j', v⟩ := p
            exact tail u v true g2.2 (run _ v true g1 ⟨rfl, rfl⟩)
        · rename_i hres
          cases h
          obtain ⟨rr, g1, g2⟩ := fin _ hres
          cases rr with
          | some p => exact g2.elim
          | none => exact tail z zv false hzr (run _ zv false g1 ⟨rfl, rfl⟩)
        · cases h
      · cases h
    · cases h
  · cases h
theorem s_mapUpdate {t : TypeId} {m k x : Operand} (hr : ∀ x u, r x = some u → RelV ε u (ρ x)) (R : Rel ε H w) (ho : o.op = .mapUpdate t m k x) (h : stepOp P o.op r H n = some ef) : Ok P o ρ ε H n w ef := by
  rw [ho] at h
  simp only [stepOp] at h
  split at h
  · rename_i kt et id k' v hu hm hk hx
    obtain ⟨b, K, hb, e⟩ := hr m _ hm
    have rk := hr k _ hk
    have rx := hr x _ hx
    split at h
    · rename_i es hobj
      obtain ⟨b', K', rs, cl, h1, h2, h3⟩ := R.obj id _ hobj
      rw [hb] at h1; cases h1
      split at h
      · rename_i hkt
        split at h
        · rename_i hres
          cases h
          obtain ⟨rr, g1, g2⟩ := run_findKey (P := P) hkt hres rk h3 w
          cases rr with
          | some p => exact g2.elim
          | none =>
            have hlt := lt_heap h2
            have S := step_write (n := n) (w' := { w with heap := w.heap.setIfInBounds b (.map (rs.push { key := ρ k, val := ρ x, born := cl }) (cl + 1)) }) (o' := .mp (es ++ [(k', v)])) R (by simp [hobj]) hb
              ⟨rfl, rfl, rfl, by simp, fun j hj => by simp [Array.getElem?_setIfInBounds, Ne.symm hj]⟩
              ⟨b, K, rs.push { key := ρ k, val := ρ x, born := cl }, cl + 1, hb, by simp [hlt], by
                simp only [Array.toList_push]
                exact All2.append h3 ⟨⟨rk, rx⟩, trivial⟩⟩
            refine ⟨undef, _, ε, .inr ⟨?_, rfl⟩, ⟨[], rfl, trivial⟩, by simpa [app] using S⟩
            have hs : (setObj b (.map (rs.push { key := ρ k, val := ρ x, born := cl }) (cl + 1))).run P w = .ok () { w with heap := w.heap.setIfInBounds b (.map (rs.push { key := ρ k, val := ρ x, born := cl }) (cl + 1)) } := by
              simp [setObj, Sem.run, h2]
            simp only [execOp, ho, e, Instr.mapUpdate, Sem.run_bind, run_under hu, Result.andThen_ok, run_getObj h2 (by simp), run_check hkt rk, g1, hs, Sem.run_pure]
        · cases h
      · cases h
    · cases h
  · cases h
theorem s_range {t : TypeId} {x : Operand} (hr : ∀ x u, r x = some u → RelV ε u (ρ x)) (R : Rel ε H w) (hf : Free ε n (n + ef.2.2)) (ho : o.op = .range t x) (h : stepOp P o.op r H n = some ef) : Ok P o ρ ε H n w ef := by
  rw [ho] at h
  simp only [stepOp] at h
  split at h
  · rename_i k e hu hx
    cases h
    have ev : ρ x = .map none := hr x _ hx
    have S := step_new (o := .it none) (K := 0) R (hf n (by omega) (by simp)) (alloc_new w (.mapIter none 0 #[] 0)) ⟨_, _, none, 0, #[], 0, ins_same _ _ _, (alloc_new w _).new, rfl⟩
    refine ⟨.pointer (some ⟨w.heap.size, 0, none⟩), _, _, .inl ?_, ⟨_, _, ins_same _ _ _, rfl⟩, by simpa [app] using S⟩
    simp only [execOp, ho, ev, Instr.range, Sem.run_bind, run_under hu, Result.andThen_ok, Sem.run_pure, run_newObj_alloc]
  · rename_i k e id hu hx
    obtain ⟨b, K, hb, ev⟩ := hr x _ hx
    split at h
    · rename_i es hobj
      cases h
      obtain ⟨b', K', rs, cl, h1, h2, h3⟩ := R.obj id _ hobj
      rw [hb] at h1; cases h1
      have hfn := hf n (by omega) (by simp)
      have S := step_new (o := .it (some id)) (K := 0) R hfn (alloc_new w (.mapIter (some b) cl #[] cl)) ⟨_, _, some b, cl, #[], cl, ins_same _ _ _, (alloc_new w _).new, b, K, le_ins hfn _ _ _ hb, rfl⟩
      refine ⟨.pointer (some ⟨w.heap.size, 0, none⟩), _, _, .inl ?_, ⟨_, _, ins_same _ _ _, rfl⟩, by simpa [app] using S⟩
      simp only [execOp, ho, ev, Instr.range, Sem.run_bind, run_under hu, Result.andThen_ok, Sem.run_pure, run_getObj h2 (by simp), run_newObj_alloc]
    · cases h
  · cases h
theorem s_next {x : Operand} (hr : ∀ x u, r x = some u → RelV ε u (ρ x)) (R : Rel ε H w) (ho : o.op = .next x false) (h : stepOp P o.op r H n = some ef) : Ok P o ρ ε H n w ef := by
  rw [ho] at h
  simp only [stepOp] at h
  split at h
  · rename_i id hx
    obtain ⟨b, K, hb, ev⟩ := hr x _ hx
    split at h
    · rename_i hobj
      cases h
      obtain ⟨b', K', mr, si, se, st, h1, h2, h3⟩ := R.obj id _ hobj
      rw [hb] at h1; cases h1
      simp only at h3
      subst h3
      refine Ok.pure R (rv := .tuple #[.bool false]) ?_ ⟨[.bool false], rfl, rfl, trivial⟩
      simp only [execOp, ho, ev, Instr.next, Sem.run_bind, run_getObj h2 (by simp), Result.andThen_ok, Sem.run_pure]
    · rename_i m hobj
      split at h
      · rename_i hm
        cases h
        obtain ⟨b', K', mr, si, se, st, h1, h2, h3⟩ := R.obj id _ hobj
        rw [hb] at h1; cases h1
        obtain ⟨bm, Km, h4, h5⟩ := h3
        subst h5
        obtain ⟨b2, K2, rs, cl, h6, h7, h8⟩ := R.obj m _ hm
        rw [h4] at h6; cases h6
        have hrs : rs = #[] := by
          cases hq : rs.toList with
          | nil => exact Array.toList_eq_nil_iff.1 hq
          | cons a l => rw [hq] at h8; exact h8.elim
        subst hrs
        refine Ok.pure R (rv := .tuple #[.bool false]) ?_ ⟨[.bool false], rfl, rfl, trivial⟩
        simp [execOp, ho, ev, Instr.next, run_getObj h2 (by simp), run_getObj h7 (by simp), Question.forced, choose, Sem.run]
      · cases h
    · cases h
  · cases h
/-- THE OPERATIONS ARE THE TRUE ONES' -/
theorem step_sound (hr : ∀ x u, r x = some u → RelV ε u (ρ x)) (R : Rel ε H w) (h : stepOp P o.op r H n = some ef) (hf : Free ε n (n + ef.2.2)) : Ok P o ρ ε H n w ef := by
  obtain ⟨dst, op, type, pos, after, guard⟩ := o
  cases op with
  | move x => exact s_move hr R (.inl rfl) h
  | assign x => exact s_move hr R (.inr rfl) h
  | pick c a b => exact s_pick hr R rfl h
  | alloc e => exact s_alloc R hf rfl h
  | box e x => exact s_box hr R hf rfl h
  | build t ps => exact s_build hr R rfl h
  | buildSlice t l ps => exact s_buildSlice hr R hf rfl h
  | load t a => exact s_load hr R rfl h
  | store t a x => exact s_store hr R rfl h
  | nilCheck x => exact s_nilCheck hr R rfl h
  | binOp op t x y t' => exact s_binOp hr R rfl h
  | unOp op t x => cases op <;> first | exact s_not hr R rfl h | cases h
  | convert s d x => exact s_convert hr R hf rfl h
  | makeFunc fn first caps => cases fn <;> first | exact s_makeFunc hr R rfl h | cases h
  | makeMap t rr => cases rr <;> first | exact s_makeMap R hf rfl h | cases h
  | makeSlice t l c => exact s_makeSlice hr R hf rfl h
  | slice t x lo hi mx => exact s_slice hr R rfl h
  | fieldAddr s x f => exact s_fieldAddr hr R rfl h
  | indexAddr t x i => exact s_indexAddr hr R rfl h
  | index t x i => exact s_index hr R rfl h
  | lookup t m k ok => exact s_lookup hr R rfl h
  | mapUpdate t m k x => exact s_mapUpdate hr R rfl h
  | range t x => exact s_range hr R hf rfl h
  | next x s => cases s <;> first | exact s_next hr R rfl h | cases h
  | extract x i => exact s_extract hr R rfl h
  | call c =>
    obtain ⟨callee, args, ats⟩ := c
    cases callee with
    | builtin b =>
      simp only [stepOp] at h
      split at h
      · rename_i vs hvs
        have hv := vals_rel hr _ _ hvs
        have exec : ∀ (rv : Value) (w' : World), (builtin b ats type (args.map fun | .const _ => true | _ => false) (args.map ρ)).run P w = .ok (.value rv) w' → (execOp ρ { dst := dst, op := .call { callee := .builtin b, args := args, argTypes := ats }, type := type, pos := pos, after := after, guard := guard }).run P w = .ok (.value rv) w' := by
          intro rv w' hh
          simp only [execOp, resolve, invoke, Sem.run_bind, Sem.run_pure, Result.andThen_ok]
          exact hh
        have el : args.map ρ = (args.toList.map ρ).toArray := by apply Array.ext'; simp
        rw [el] at exec
        generalize args.toList.map ρ = rvs at hv exec
        cases b <;> simp only [builtinA] at h <;> first
          | (cases h; done)
          | skip
        · -- append
          split at h
          · rename_i s x t t' h0 h1
            match rvs, hv with
            | [vs', vx], hv =>
              obtain ⟨rv, w', ε', k1, k2, k3⟩ := s_append (ty := type) R hv.1 hv.2.1 hf h0 h1 h
              exact ⟨rv, w', ε', .inl (exec _ _ (by simp only [builtin, Sem.run_bind, k1, Result.andThen_ok, Sem.run_pure])), k2, k3⟩
          · cases h
        · -- cap
          split at h
          · rename_i v t h0
            split at h
            · rename_i f hc
              cases h
              match rvs, hv with
              | [v'], hv =>
                obtain ⟨rv, k1, k2⟩ := s_cap (P := P) (w := w) (ty := type) hv.1 h0 hc
                exact Ok.pure R (exec _ _ (by simp only [builtin, Sem.run_bind, k1, Result.andThen_ok, Sem.run_pure])) k2
            · cases h
          · cases h
        · -- clear
          split at h
          · rename_i d t h0
            match rvs, hv with
            | [v'], hv =>
              obtain ⟨rv, w', k1, k2, k3⟩ := s_clear (n := n) (ty := type) R hv.1 h0 h
              exact ⟨rv, w', ε, .inl (exec _ _ (by simp only [builtin, Sem.run_bind, k1, Result.andThen_ok, Sem.run_pure])), k2, k3⟩
          · cases h
        · -- copy
          split at h
          · rename_i d x t h0
            match rvs, hv with
            | [vd, vx], hv =>
              obtain ⟨rv, w', k1, k2, k3⟩ := s_copy (n := n) (ty := type) R hv.1 hv.2.1 h0 h
              exact ⟨rv, w', ε, .inl (exec _ _ (by simp only [builtin, Sem.run_bind, k1, Result.andThen_ok, Sem.run_pure])), k2, k3⟩
          · cases h
        · -- len
          split at h
          · rename_i v t h0
            split at h
            · rename_i f hc
              cases h
              match rvs, hv with
              | [v'], hv =>
                obtain ⟨rv, k1, k2⟩ := s_len (ty := type) R hv.1 h0 hc
                exact Ok.pure R (exec _ _ (by simp only [builtin, Sem.run_bind, k1, Result.andThen_ok, Sem.run_pure])) k2
            · cases h
          · cases h
        · -- max
          split at h
          · rename_i f hc
            cases h
            obtain ⟨rv, k1, k2⟩ := s_min (P := P) (w := w) (ats := ats) (ty := type) hv hc
            simp only [if_true] at k1
            exact Ok.pure R (exec _ _ (by simp only [builtin, Sem.run_bind, k1, Result.andThen_ok, Sem.run_pure])) k2
          · cases h
        · -- min
          split at h
          · rename_i f hc
            cases h
            obtain ⟨rv, k1, k2⟩ := s_min (P := P) (w := w) (ats := ats) (ty := type) hv hc
            simp only [Bool.false_eq_true, if_false] at k1
            exact Ok.pure R (exec _ _ (by simp only [builtin, Sem.run_bind, k1, Result.andThen_ok, Sem.run_pure])) k2
          · cases h
      · cases h
    | value f => simp only [stepOp] at h; cases h
    | invoke a b => simp only [stepOp] at h; cases h
  | _ => simp only [stepOp] at h; cases h
end
end Go.Proofs.YtkimkgbppegkhaaGreat.Cm
