/- The clean machine: a call holds under other names, and beside other objects. No program is walked here. -/
import Derived.Test.YtkimkgbppegkhaaGreatCmZ
namespace Go.Proofs.YtkimkgbppegkhaaGreat.Cm
open Go Go.RowKit
section
variable (s : Nat → Nat)
def renF : F → F
  | .ptr id off => .ptr (s id) off
  | .sl id off sz len cap => .sl (s id) off sz len cap
  | .map id => .map (s id)
  | x => x
def renU : U → U
  | .f x => .f (renF s x)
  | .agg cs => .agg (cs.map (renF s))
  | .fn g cs => .fn g (cs.map (renF s))
def renV : V → V
  | .u x => .u (renU s x)
  | .tup l => .tup (l.map (renU s))
def renO : O → O
  | .cells cs ex => .cells (cs.map (renF s)) ex
  | .mp es => .mp (es.map fun e => (renU s e.1, renU s e.2))
  | .it m => .it (m.map s)
  | .whole rcs elem fz => .whole rcs elem fz
end
theorem All2.map_l {α α' β : Type} {R : α' → β → Prop} {g : α → α'} : ∀ {l : List α} {k : List β}, All2 R (l.map g) k ↔ All2 (fun a b => R (g a) b) l k
  | [], [] => Iff.rfl
  | a :: l, b :: k => and_congr Iff.rfl All2.map_l
  | [], _ :: _ => Iff.rfl
  | _ :: _, [] => Iff.rfl
theorem All2.iff {α β : Type} {R S : α → β → Prop} (h : ∀ a b, R a b ↔ S a b) {l : List α} {k : List β} : All2 R l k ↔ All2 S l k := ⟨All2.mono fun a b => (h a b).1, All2.mono fun a b => (h a b).2⟩
section
variable {s : Nat → Nat} {ε ε' : Env}
theorem ren_F {x : F} {v : Value} : RelF ε (renF s x) v ↔ RelF (fun id => ε (s id)) x v := by cases x <;> exact Iff.rfl
theorem ren_U {x : U} {v : Value} : RelU ε (renU s x) v ↔ RelU (fun id => ε (s id)) x v := by
  cases x with
  | f x => exact ren_F
  | agg cs => simp only [renU, RelU, All2.map_l, All2.iff (fun a b => ren_F (s := s) (ε := ε) (x := a) (v := b))]
  | fn g cs => simp only [renU, RelU, All2.map_l, All2.iff (fun a b => ren_F (s := s) (ε := ε) (x := a) (v := b))]
theorem ren_V {x : V} {v : Value} : RelV ε (renV s x) v ↔ RelV (fun id => ε (s id)) x v := by
  cases x with
  | u x => exact ren_U
  | tup l => simp only [renV, RelV, All2.map_l, All2.iff (fun a b => ren_U (s := s) (ε := ε) (x := a) (v := b))]
theorem ren_O {w : World} {id : Nat} {o : O} : RelO ε w (s id) (renO s o) ↔ RelO (fun id => ε (s id)) w id o := by
  cases o with
  | cells cs ex => simp only [renO, RelO, All2.map_l, List.length_map, All2.iff (fun a b => ren_F (s := s) (ε := ε) (x := a) (v := b))]
  | mp es =>
    simp only [renO, RelO, All2.map_l]
    have : ∀ (e : U × U) (r : MapEntry), (RelU ε (renU s e.1) r.key ∧ RelU ε (renU s e.2) r.val) ↔ (RelU (fun id => ε (s id)) e.1 r.key ∧ RelU (fun id => ε (s id)) e.2 r.val) := fun e r => and_congr ren_U ren_U
    simp only [this]
  | it m => cases m <;> exact Iff.rfl
  | whole rcs elem fz => exact Iff.rfl
end
/-- a heap under other names -/
def renH (s t : Nat → Nat) (H : Heap) : Heap := fun k => if s (t k) = k then (H (t k)).map (renO s) else none
theorem renH_some {s t : Nat → Nat} {H : Heap} {k : Nat} {o : O} (h : renH s t H k = some o) : s (t k) = k ∧ ∃ o', H (t k) = some o' ∧ o = renO s o' := by
  unfold renH at h
  split at h
  · rename_i hk
    rw [Option.map_eq_some_iff] at h
    obtain ⟨o', h1, h2⟩ := h
    exact ⟨hk, o', h1, h2.symm⟩
  · cases h
theorem renH_ne {s t : Nat → Nat} {H : Heap} {k : Nat} (h : renH s t H k ≠ none) : s (t k) = k ∧ H (t k) ≠ none := by
  cases hq : renH s t H k with
  | none => exact absurd hq h
  | some o =>
    obtain ⟨h1, o', h2, _⟩ := renH_some hq
    exact ⟨h1, by rw [h2]; simp⟩
theorem renH_at {s t : Nat → Nat} (hts : ∀ id, t (s id) = id) {H : Heap} (id : Nat) : renH s t H (s id) = (H id).map (renO s) := by
  unfold renH
  rw [hts, if_pos rfl]
/-- A CALL UNDER OTHER NAMES -/
theorem CallsC.rename {P : Program} {f : Nat} {args : List V} {H H' : Heap} {n n' m : Nat} {v : V} (s t : Nat → Nat) (hts : ∀ id, t (s id) = id) (hsn : ∀ i, s (n + i) = m + i) (hc : CallsC P f args H n v H' n') :
    CallsC P f (args.map (renV s)) (renH s t H) m (renV s v) (renH s t H') (m + (n' - n)) := by
  obtain ⟨⟨hle, hg⟩, hc⟩ := hc
  have back : ∀ k, s (t k) = k → n ≤ t k → t k < n' → m ≤ k ∧ k < m + (n' - n) := fun k h1 h2 h3 => by
    have := hsn (t k - n)
    rw [show n + (t k - n) = t k by omega, h1] at this
    omega
  refine ⟨⟨by omega, fun k hk => ?_⟩, fun ε w rargs R hf ha => ?_⟩
  · obtain ⟨h1, h2⟩ := renH_ne hk
    rcases hg _ h2 with h3 | h3
    · left
      unfold renH
      rw [if_pos h1]
      cases hq : H (t k) with
      | none => exact absurd hq h3
      | some o => simp
    · exact .inr (back k h1 h3.1 h3.2)
  · have R0 : Rel (fun id => ε (s id)) H w := ⟨fun id o ho => ren_O.1 (R.obj (s id) (renO s o) (by rw [renH_at hts, ho]; rfl)), fun i j b K K' hi hj h1 h2 => by
      have := R.inj (s i) (s j) b K K' (by rw [renH_at hts]; cases hq : H i with | none => exact absurd hq hi | some o => simp) (by rw [renH_at hts]; cases hq : H j with | none => exact absurd hq hj | some o => simp) h1 h2
      have := congrArg t this
      rwa [hts, hts] at this⟩
    have F0 : Free (fun id => ε (s id)) n n' := fun id h1 h2 => by
      show ε (s id) = none
      rw [show id = n + (id - n) by omega, hsn]
      exact hf _ (by omega) (by omega)
    have A0 : All2 (RelV (fun id => ε (s id))) args rargs := by
      rw [All2.map_l] at ha
      exact (All2.iff fun a b => ren_V).1 ha
    have own : ∀ b, Owned (fun id => ε (s id)) H b → Owned ε (renH s t H) b := fun b ⟨id, K, h1, h2⟩ => ⟨s id, K, by rw [renH_at hts]; cases hq : H id with | none => exact absurd hq h1 | some o => simp, h2⟩
    refine Calls.mono (hc _ w rargs R0 F0 A0) fun x w' hp => ?_
    obtain ⟨rv, ε1, h1, h2, S⟩ := hp
    obtain ⟨ε2, he2⟩ : ∃ ε2 : Env, ε2 = fun k => match ε k with | some p => some p | none => if s (t k) = k then ε1 (t k) else none := ⟨_, rfl⟩
    have e2s : (fun id => ε2 (s id)) = ε1 := by
      funext id
      rw [he2]
      simp only
      cases hq : ε (s id) with
      | some p => exact (S.ext id p hq).symm
      | none => simp only [hts, if_true]
    have e2n : ∀ k p, ε2 k = some p → ε k = none → s (t k) = k ∧ ε1 (t k) = some p ∧ ε (s (t k)) = none := fun k p h h' => by
      rw [he2] at h
      simp only [h'] at h
      split at h
      · rename_i hk
        exact ⟨hk, h, by rw [hk]; exact h'⟩
      · cases h
    refine ⟨rv, ε2, h1, by rw [ren_V, e2s]; exact h2, ?_⟩
    refine ⟨by omega, fun k p h => by rw [he2]; simp only [h], fun k h h' => ?_, fun k b K h h' => ?_, fun k h => ?_, ⟨S.keeps.os, S.keeps.tape, S.keeps.output, S.keeps.size, fun k hk hF => S.keeps.block k hk fun ho => hF (own k ho)⟩, ⟨fun k o h => ?_, fun i j b K K' hi hj g1 g2 => ?_⟩⟩
    · cases hq : ε2 k with
      | none => exact absurd hq h'
      | some p =>
        obtain ⟨g1, g2, g3⟩ := e2n k p hq h
        have := S.names (t k) g3 (by rw [g2]; simp)
        exact back k g1 this.1 this.2
    · obtain ⟨g1, g2, g3⟩ := e2n k _ h h'
      rcases S.new (t k) b K g2 g3 with h3 | h3
      · exact .inl h3
      · exact .inr (own b h3)
    · obtain ⟨g1, g2⟩ := renH_ne h
      rcases S.dom _ g2 with h3 | ⟨h3, h4, h5⟩
      · left
        unfold renH
        rw [if_pos g1]
        cases hq : H (t k) with
        | none => exact absurd hq h3
        | some o => simp
      · have h5 : ε (s (t k)) = none := h5
        rw [g1] at h5
        have := back k g1 h3 h4
        exact .inr ⟨this.1, this.2, h5⟩
    · obtain ⟨g1, o', g2, rfl⟩ := renH_some h
      have := S.rel.obj _ _ g2
      rw [← e2s] at this
      have := ren_O.2 this
      rwa [g1] at this
    · obtain ⟨a1, a2⟩ := renH_ne hi
      obtain ⟨b1, b2⟩ := renH_ne hj
      have e : ∀ q, ε1 (t q) = ε2 (s (t q)) := fun q => by rw [← e2s]
      have := S.rel.inj (t i) (t j) b K K' a2 b2 (by rw [e, a1]; exact g1) (by rw [e, b1]; exact g2)
      rw [← a1, this, b1]
/-- a call, where more lies in the heap -/
theorem CallsC.beside {P : Program} {f : Nat} {args : List V} {H H' : Heap} {n n' : Nat} {v : V} (E : Heap) (hc : CallsC P f args H n v H' n') (hd : ∀ id, H id ≠ none → E id = none) (hd' : ∀ id, H' id ≠ none → E id = none) : CallsC P f args (H.or E) n v (H'.or E) n' := by
  refine ⟨⟨hc.1.1, fun k hk => ?_⟩, fun ε w rargs R hf ha => ?_⟩
  · cases hq : H' k with
    | some o =>
      rcases hc.1.2 k (by simp [hq]) with h | h
      · left; cases hh : H k with
        | none => exact absurd hh h
        | some x => rw [Heap.or_left hh]; simp
      · exact .inr h
    | none =>
      rw [Heap.or_right hq] at hk
      left
      cases hh : H k with
      | none => rw [Heap.or_right hh]; exact hk
      | some x => rw [Heap.or_left hh]; simp
  · have hm : Mono H (H.or E) := fun id o ho => Heap.or_left ho
    refine Calls.mono (hc.2 ε w rargs (R.sub hm) hf ha) fun x w' hp => ?_
    obtain ⟨rv, ε', h1, h2, S⟩ := hp
    exact ⟨rv, ε', h1, h2, S.frame R hd⟩
/-- a call that needs nothing, told from nothing, told from anywhere -/
theorem CallsC.closed {P : Program} {f : Nat} {args : List V} {H' : Heap} {n' : Nat} {v : V} (hc : CallsC P f args (fun _ => none) 0 v H' n') (H : Heap) (m : Nat) (hargs : args.map (renV (m + ·)) = args) (hH : ∀ k, m ≤ k → k < m + n' → H k = none) :
    CallsC P f args H m (renV (m + ·) v) ((renH (m + ·) (· - m) H').or H) (m + n') := by
  have h1 := hc.rename (m := m) (m + ·) (· - m) (fun id => by simp) (fun i => by simp)
  rw [hargs] at h1
  have e0 : renH (m + ·) (· - m) (fun _ => none) = fun _ => none := by
    funext k
    unfold renH
    split <;> rfl
  rw [e0] at h1
  have h2 := h1.beside H (fun id h => absurd rfl h) (fun id h => by
    obtain ⟨g1, g2⟩ := renH_ne h
    rcases hc.1.2 _ g2 with h3 | h3
    · exact absurd rfl h3
    · have g3 : m + (id - m) = id := g1
      exact hH id (by omega) (by omega))
  have e1 : (Heap.or (fun _ => none) H) = H := by funext k; rfl
  rw [e1] at h2
  simpa using h2
end Go.Proofs.YtkimkgbppegkhaaGreat.Cm
