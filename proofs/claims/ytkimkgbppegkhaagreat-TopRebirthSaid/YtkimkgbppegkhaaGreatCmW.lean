/- The clean machine, walked by hand: code by its path, with what is wanted behind it. No program is walked here. -/
import Derived.Test.YtkimkgbppegkhaaGreatCmV
namespace Go.Proofs.YtkimkgbppegkhaaGreat.Cm
open Go Go.RowKit
/-- temporaries, listed -/
noncomputable def tl (l : List (Nat × V)) : Tm := fun t => @List.rec (Nat × V) (fun _ => Option V) none (fun p _ ih => @Bool.rec (fun _ => Option V) ih (some p.2) (Nat.beq t p.1)) l
theorem tl_cons (d : Nat) (v : V) (l : List (Nat × V)) : tl ((d, v) :: l) = putA (tl l) (some d) v := by
  funext t
  show @Bool.rec (fun _ => Option V) (tl l t) (some v) (Nat.beq t d) = _
  simp only [putA, T.bool_rec]
  by_cases h : t = d
  · simp [h]
  · simp [h]
noncomputable def bodyAt (P : Program) (f : Nat) : Code := match P.funcs[f]? with | some fn => (match fn.body with | some c => c | none => .skip) | none => .skip
noncomputable def ntm (P : Program) (f : Nat) : Nat := match P.funcs[f]? with | some fn => fn.ntmps | none => 0
noncomputable def sub1 (i : Nat) : Code → Code
  | .seq a b => match i with | 0 => a | _ => b
  | .cond _ a b => match i with | 0 => a | _ => b
  | .block _ a => a
  | .loop a => a
  | _ => .skip
/-- the code at a path, which is read from its end -/
noncomputable def codeAt (P : Program) (f : Nat) : List Nat → Code
  | [] => bodyAt P f
  | i :: p => sub1 i (codeAt P f p)
noncomputable def kindC : Code → Nat
  | .skip => 0
  | .exit _ => 1
  | .ret => 2
  | .region _ _ d => match d with | false => 3 | true => 4
  | .seq .. => 5
  | .cond .. => 6
  | .block .. => 7
  | .loop _ => 8
  | _ => 9
noncomputable def opsOf : Code → Array Oper
  | .region _ ops _ => ops
  | _ => #[]
noncomputable def exitC : Code → Option Nat
  | .exit i => some i
  | _ => none
noncomputable def blockId : Code → Option Nat
  | .block i _ => some i
  | _ => none
noncomputable def ifC : Code → Operand
  | .cond x _ _ => x
  | _ => .tmp 0
abbrev Ko := Exit → Tm → Heap → Nat → Prop
section
variable {P : Program} {f : Nat} {p : List Nat} {A B : Tm} {H : Heap} {n : Nat} {K : Ko}
/-- the code at a path comes to what is wanted -/
def To (P : Program) (f : Nat) (p : List Nat) (A : Tm) (H : Heap) (n : Nat) (K : Ko) : Prop := ∃ x A' H' n', Runs P (ntm P f) (codeAt P f p) A H n x A' H' n' ∧ K x A' H' n'
/-- a loop's rounds come to what is wanted -/
def ToL (P : Program) (f : Nat) (p : List Nat) (A : Tm) (H : Heap) (n : Nat) (K : Ko) : Prop := ∃ x A' H' n', Rounds P (ntm P f) (codeAt P f p) A H n x A' H' n' ∧ K x A' H' n'
theorem To.imp {K' : Ko} (h : To P f p A H n K') (hK : ∀ x A' H' n', K' x A' H' n' → K x A' H' n') : To P f p A H n K := by
  obtain ⟨x, A', H', n', h1, h2⟩ := h
  exact ⟨x, A', H', n', h1, hK _ _ _ _ h2⟩
theorem To.keep (B : Tm) (h : To P f p B H n K) (hB : ∀ t v, B t = some v → A t = some v) : To P f p A H n K := by
  obtain ⟨x, A', H', n', h1, h2⟩ := h
  exact ⟨x, A', H', n', h1.weak hB (fun _ _ h => h) (fun _ _ h => h) (Nat.le_refl _), h2⟩
theorem To.skip (hk : kindC (codeAt P f p) = 0) (h : K .normal A H n) : To P f p A H n K := by
  cases hc : codeAt P f p <;> rw [hc] at hk <;> first
    | exact ⟨_, _, _, _, by rw [hc]; exact Runs.skip, h⟩
    | (simp only [kindC] at hk; split at hk <;> cases hk; done)
    | cases hk
theorem To.exit (i : Nat) (hk : exitC (codeAt P f p) = some i) (h : K (.exit i) A H n) : To P f p A H n K := by
  cases hc : codeAt P f p <;> rw [hc] at hk <;> first
    | (cases hk; exact ⟨_, _, _, _, by rw [hc]; exact Runs.exit, h⟩)
    | cases hk
theorem To.ret (hk : kindC (codeAt P f p) = 2) (h : K .ret A H n) : To P f p A H n K := by
  cases hc : codeAt P f p <;> rw [hc] at hk <;> first
    | exact ⟨_, _, _, _, by rw [hc]; exact Runs.ret, h⟩
    | (simp only [kindC] at hk; split at hk <;> cases hk; done)
    | cases hk
/-- behind the first of two -/
@[reducible] def thenK (P : Program) (f : Nat) (p : List Nat) (K : Ko) : Ko := fun x A H n => match x with
  | .normal => To P f p A H n K
  | x => K x A H n
theorem To.seq (hk : kindC (codeAt P f p) = 5) (h : To P f (0 :: p) A H n (thenK P f (1 :: p) K)) : To P f p A H n K := by
  cases hc : codeAt P f p <;> rw [hc] at hk <;> first
    | (simp only [kindC] at hk; split at hk <;> cases hk; done)
    | (cases hk; done)
    | skip
  rename_i a b
  obtain ⟨x, A1, H1, n1, h1, h2⟩ := h
  have e0 : codeAt P f (0 :: p) = a := by show sub1 0 (codeAt P f p) = a; rw [hc]; rfl
  have e1 : codeAt P f (1 :: p) = b := by show sub1 1 (codeAt P f p) = b; rw [hc]; rfl
  rw [e0] at h1
  by_cases hx : x = .normal
  · subst hx
    obtain ⟨y, A2, H2, n2, h3, h4⟩ := h2
    rw [e1] at h3
    exact ⟨y, A2, H2, n2, by rw [hc]; exact Runs.seq h1 h3, h4⟩
  · refine ⟨x, A1, H1, n1, by rw [hc]; exact Runs.seq_out h1 hx, ?_⟩
    cases x <;> first
      | exact absurd rfl hx
      | exact h2
theorem To.ifT (hk : kindC (codeAt P f p) = 6) (hc : evA A (ifC (codeAt P f p)) = some (vf (.bool true))) (h : To P f (0 :: p) A H n K) : To P f p A H n K := by
  cases hd : codeAt P f p <;> rw [hd] at hk <;> first
    | (simp only [kindC] at hk; split at hk <;> cases hk; done)
    | (cases hk; done)
    | skip
  rename_i x a b
  obtain ⟨y, A1, H1, n1, h1, h2⟩ := h
  have e0 : codeAt P f (0 :: p) = a := by show sub1 0 (codeAt P f p) = a; rw [hd]; rfl
  rw [e0] at h1
  rw [hd] at hc
  exact ⟨y, A1, H1, n1, by rw [hd]; exact Runs.cond (b := true) hc h1, h2⟩
theorem To.ifF (hk : kindC (codeAt P f p) = 6) (hc : evA A (ifC (codeAt P f p)) = some (vf (.bool false))) (h : To P f (1 :: p) A H n K) : To P f p A H n K := by
  cases hd : codeAt P f p <;> rw [hd] at hk <;> first
    | (simp only [kindC] at hk; split at hk <;> cases hk; done)
    | (cases hk; done)
    | skip
  rename_i x a b
  obtain ⟨y, A1, H1, n1, h1, h2⟩ := h
  have e0 : codeAt P f (1 :: p) = b := by show sub1 1 (codeAt P f p) = b; rw [hd]; rfl
  rw [e0] at h1
  rw [hd] at hc
  exact ⟨y, A1, H1, n1, by rw [hd]; exact Runs.cond (b := false) hc (by simpa using h1), h2⟩
/-- the first part of a choice where it holds, the second one where it doesn't -/
theorem To.ifB (b : Bool) (hk : kindC (codeAt P f p) = 6) (hc : evA A (ifC (codeAt P f p)) = some (vf (.bool b))) (h1 : b = true → To P f (0 :: p) A H n K) (h2 : b = false → To P f (1 :: p) A H n K) : To P f p A H n K := by
  cases b with
  | true => exact To.ifT hk hc (h1 rfl)
  | false => exact To.ifF hk hc (h2 rfl)
/-- behind a block -/
@[reducible] noncomputable def blockK (id : Nat) (K : Ko) : Ko := fun x A H n => match x with
  | .exit j => match Nat.beq j id with
    | true => K .normal A H n
    | false => K (.exit j) A H n
  | x => K x A H n
theorem To.block (id : Nat) (hk : blockId (codeAt P f p) = some id) (h : To P f (0 :: p) A H n (blockK id K)) : To P f p A H n K := by
  cases hc : codeAt P f p <;> rw [hc] at hk <;> first
    | (cases hk; done)
    | skip
  rename_i id' a
  cases hk
  obtain ⟨x, A1, H1, n1, h1, h2⟩ := h
  have e0 : codeAt P f (0 :: p) = a := by show sub1 0 (codeAt P f p) = a; rw [hc]; rfl
  rw [e0] at h1
  refine ⟨outBlock id x, A1, H1, n1, by rw [hc]; exact Runs.block h1, ?_⟩
  cases x <;> first
    | exact h2
    | skip
  rename_i j
  simp only [blockK] at h2
  simp only [outBlock]
  split at h2
  · rename_i hj
    rw [if_pos (Nat.eq_of_beq_eq_true hj)]
    exact h2
  · rename_i hj
    rw [if_neg (Nat.ne_of_beq_eq_false hj)]
    exact h2
theorem To.loop (hk : kindC (codeAt P f p) = 8) (h : ToL P f (0 :: p) A H n K) : To P f p A H n K := by
  cases hc : codeAt P f p <;> rw [hc] at hk <;> first
    | (simp only [kindC] at hk; split at hk <;> cases hk; done)
    | (cases hk; done)
    | skip
  rename_i a
  obtain ⟨x, A1, H1, n1, h1, h2⟩ := h
  have e0 : codeAt P f (0 :: p) = a := by show sub1 0 (codeAt P f p) = a; rw [hc]; rfl
  rw [e0] at h1
  exact ⟨x, A1, H1, n1, by rw [hc]; exact Runs.loop h1, h2⟩
@[reducible] def roundK (P : Program) (f : Nat) (p : List Nat) (K : Ko) : Ko := fun x A H n => match x with
  | .normal => ToL P f p A H n K
  | x => K x A H n
theorem ToL.round (h : To P f p A H n (roundK P f p K)) : ToL P f p A H n K := by
  obtain ⟨x, A1, H1, n1, h1, h2⟩ := h
  by_cases hx : x = .normal
  · subst hx
    obtain ⟨y, A2, H2, n2, h3, h4⟩ := h2
    exact ⟨y, A2, H2, n2, Rounds.more h1 h3, h4⟩
  · refine ⟨x, A1, H1, n1, Rounds.last h1 hx, ?_⟩
    cases x <;> first
      | exact absurd rfl hx
      | exact h2
theorem Rounds.weak_in {m : Nat} {c : Code} {A B A' : Tm} {H H' : Heap} {n n' : Nat} {x : Exit} (h : Rounds P m c B H n x A' H' n') (hB : ∀ t v, B t = some v → A t = some v) : Rounds P m c A H n x A' H' n' := by
  obtain ⟨h1, k, h2⟩ := h
  exact ⟨h1, k, fun ε a w Q RA R hf hQ => h2 ε a w Q (RA.sub hB) R hf hQ⟩
theorem ToL.keep (B : Tm) (h : ToL P f p B H n K) (hB : ∀ t v, B t = some v → A t = some v) : ToL P f p A H n K := by
  obtain ⟨x, A', H', n', h1, h2⟩ := h
  exact ⟨x, A', H', n', h1.weak_in hB, h2⟩
theorem ToL.imp {K' : Ko} (h : ToL P f p A H n K') (hK : ∀ x A' H' n', K' x A' H' n' → K x A' H' n') : ToL P f p A H n K := by
  obtain ⟨x, A', H', n', h1, h2⟩ := h
  exact ⟨x, A', H', n', h1, hK _ _ _ _ h2⟩
/-- what is listed is there -/
noncomputable def AtL (A : Tm) : List (Nat × V) → Prop
  | [] => True
  | q :: r => A q.1 = some q.2 ∧ AtL A r
theorem AtL.sub {A : Tm} : ∀ {l : List (Nat × V)}, AtL A l → ∀ t v, tl l t = some v → A t = some v
  | [], _, t, v, h => by cases h
  | (d, u) :: l, hl, t, v, h => by
    rw [tl_cons] at h
    simp only [putA] at h
    by_cases e : t = d
    · subst e; rw [if_pos rfl] at h; cases h; exact hl.1
    · rw [if_neg e] at h; exact AtL.sub hl.2 t v h
/-- operations of a region, from one on -/
def Sg (P : Program) (f : Nat) (p : List Nat) (i : Nat) (A : Tm) (H : Heap) (n : Nat) (K : Ko) : Prop :=
  ∃ A' H' n', (Good H n H' n' ∧ ∀ ε a w (Q : Exit → Act → World → Prop), RelA ε (ntm P f) A a → Rel ε H w → Free ε n n' → (∀ ε' a' w', RelA ε' (ntm P f) A' a' → Step ε H n w ε' H' n' w' → Q .normal a' w') →
    wpOps P (opsOf (codeAt P f p)) Q (List.range' i ((opsOf (codeAt P f p)).size - i)) a w) ∧ K .normal A' H' n'
theorem To.region (hk : kindC (codeAt P f p) = 3) (h : Sg P f p 0 A H n K) : To P f p A H n K := by
  cases hc : codeAt P f p <;> rw [hc] at hk <;> first
    | (cases hk; done)
    | skip
  rename_i id ops d
  cases d with
  | true => cases hk
  | false =>
    obtain ⟨A', H', n', ⟨h1, h2⟩, h3⟩ := h
    refine ⟨.normal, A', H', n', ⟨h1, fun ε a w Q RA R hf hQ => ?_⟩, h3⟩
    rw [hc] at h2 ⊢
    have := h2 ε a w Q RA R hf hQ
    refine wp_region ?_
    rw [List.range_eq_range']
    exact this
theorem Sg.done {i : Nat} (hi : Nat.ble (opsOf (codeAt P f p)).size i = true) (h : K .normal A H n) : Sg P f p i A H n K := by
  have hi := Nat.le_of_ble_eq_true hi
  refine ⟨A, H, n, ⟨Good.refl _ _, fun ε a w Q RA R hf hQ => ?_⟩, h⟩
  rw [show (opsOf (codeAt P f p)).size - i = 0 by omega]
  exact hQ ε a w RA (Step.refl R)
theorem Sg.keep {i : Nat} (l : List (Nat × V)) (hl : AtL A l) (h : Sg P f p i (tl l) H n K) : Sg P f p i A H n K := by
  obtain ⟨A', H', n', ⟨h1, h2⟩, h3⟩ := h
  exact ⟨A', H', n', ⟨h1, fun ε a w Q RA R hf hQ => h2 ε a w Q (RA.sub hl.sub) R hf hQ⟩, h3⟩
/-- the operation -/
noncomputable def opAt (P : Program) (f : Nat) (p : List Nat) (i : Nat) : Oper := (opsOf (codeAt P f p)).getD i default
/-- it is there, and it is wanted or not; where its value goes -/
noncomputable def seeOp (P : Program) (f : Nat) (p : List Nat) (i : Nat) (A : Tm) : Option (Bool × Option Tmp) := match (opsOf (codeAt P f p))[i]? with
  | some o => match dstOk (ntm P f) o, wantA (opsOf (codeAt P f p)) A o with
    | true, some b => some (b, o.dst)
    | _, _ => none
  | none => none
noncomputable def putL (l : List (Nat × V)) (d : Option Tmp) (v : V) : List (Nat × V) := match d with | some d => (d, v) :: l | none => l
theorem putL_eq (l : List (Nat × V)) (d : Option Tmp) (v : V) : tl (putL l d v) = putA (tl l) d v := by
  cases d with
  | none => rfl
  | some d => exact tl_cons d v l
theorem seeOp_spec {i : Nat} {b : Bool} {d : Option Tmp} (h : seeOp P f p i A = some (b, d)) : (opsOf (codeAt P f p))[i]? = some (opAt P f p i) ∧ (∀ e, (opAt P f p i).dst = some e → e < ntm P f) ∧ wantA (opsOf (codeAt P f p)) A (opAt P f p i) = some b ∧ (opAt P f p i).dst = d := by
  unfold seeOp at h
  split at h
  · rename_i o ho
    have e : opAt P f p i = o := by
      unfold opAt
      rw [Array.getD_eq_getD_getElem?, ho]
      rfl
    rw [e]
    split at h
    · rename_i h1 h2
      cases h
      refine ⟨ho, fun e he => ?_, h2, rfl⟩
      simp only [dstOk, he, Bool.and_eq_true, decide_eq_true_eq] at h1
      exact h1.1
    · cases h
  · cases h
theorem Sg.op {i : Nat} {l : List (Nat × V)} {v : V} {H1 : Heap} {n1 : Nat} (d : Option Tmp) (h : seeOp P f p i (tl l) = some (true, d)) (J : OpJ P (opAt P f p i) (evA (tl l)) H n v H1 n1) (k : Sg P f p (i + 1) (tl (putL l d v)) H1 n1 K) : Sg P f p i (tl l) H n K := by
  obtain ⟨h1, h2, h3, h4⟩ := seeOp_spec h
  obtain ⟨A', H', n', ⟨k1, k2⟩, k3⟩ := k
  have hi : i < (opsOf (codeAt P f p)).size := (Array.getElem?_eq_some_iff.1 h1).1
  refine ⟨A', H', n', ⟨J.good.trans k1, fun ε a w Q RA R hf hQ => ?_⟩, k3⟩
  rw [show (opsOf (codeAt P f p)).size - i = ((opsOf (codeAt P f p)).size - (i + 1)) + 1 by omega, List.range'_succ]
  simp only [wpOps, h1, wantA_spec h3 RA, if_true]
  refine .inl (opJ_wp J RA R (hf.sub (Nat.le_refl _) k1.1) fun ε' rv w' g1 S => ?_)
  rw [putL_eq] at k2
  refine k2 ε' _ w' Q ?_ S.rel (S.free (hf.sub J.le (Nat.le_refl _)) (.inl (Nat.le_refl _))) fun ε2 a2 w2 RA2 S2 => hQ ε2 a2 w2 RA2 (S.trans S2)
  rw [← h4]
  exact (RA.mono S.ext).put h2 g1
theorem Sg.skip {i : Nat} {l : List (Nat × V)} (d : Option Tmp) (h : seeOp P f p i (tl l) = some (false, d)) (k : Sg P f p (i + 1) (tl (putL l d undefV)) H n K) : Sg P f p i (tl l) H n K := by
  obtain ⟨h1, h2, h3, h4⟩ := seeOp_spec h
  obtain ⟨A', H', n', ⟨k1, k2⟩, k3⟩ := k
  have hi : i < (opsOf (codeAt P f p)).size := (Array.getElem?_eq_some_iff.1 h1).1
  refine ⟨A', H', n', ⟨k1, fun ε a w Q RA R hf hQ => ?_⟩, k3⟩
  rw [show (opsOf (codeAt P f p)).size - i = ((opsOf (codeAt P f p)).size - (i + 1)) + 1 by omega, List.range'_succ]
  simp only [wpOps, h1, wantA_spec h3 RA, Bool.false_eq_true, if_false]
  rw [putL_eq] at k2
  refine k2 ε _ w Q ?_ R hf hQ
  rw [← h4]
  exact RA.put h2 (undef_rel ε)
/-- operations that come to a value by themselves -/
noncomputable def selfOp (P : Program) (f : Nat) (p : List Nat) (i : Nat) (l : List (Nat × V)) : Option (List (Nat × V)) := match seeOp P f p i (tl l) with
  | some (true, d) => match clsB P (opAt P f p i).op, reads (opAt P f p i).op with
    | 0, false => match stepOp P (opAt P f p i).op (evA (tl l)) (fun _ => none) 0 with
      | some ef => some (putL l d ef.1)
      | none => none
    | _, _ => none
  | some (false, d) => some (putL l d undefV)
  | none => none
noncomputable def selfOps (P : Program) (f : Nat) (p : List Nat) : Nat → Nat → List (Nat × V) → Option (List (Nat × V))
  | 0, _, l => some l
  | k + 1, i, l => match selfOp P f p i l with
    | some l' => selfOps P f p k (i + 1) l'
    | none => none
theorem Sg.self1 {i : Nat} {l l' : List (Nat × V)} (h : selfOp P f p i l = some l') (k : Sg P f p (i + 1) (tl l') H n K) : Sg P f p i (tl l) H n K := by
  unfold selfOp at h
  split at h
  · rename_i d hs
    split at h
    · rename_i hc hr
      split at h
      · rename_i ef hst
        cases h
        have hq : cls P (opAt P f p i).op = .quiet := by
          unfold clsB at hc
          split at hc
          · assumption
          · cases hc
          · cases hc
        obtain ⟨g1, g2⟩ := quiet_form hq hst
        have hst' : stepOp P (opAt P f p i).op (evA (tl l)) H n = some ef := by rw [← hst]; exact still_dep hq hr
        have J := OpJ.prim (P := P) (o := opAt P f p i) ef hst'
        rw [g1, g2] at J
        exact Sg.op d hs J k
      · cases h
    · cases h
  · rename_i d hs
    cases h
    exact Sg.skip d hs k
  · cases h
theorem Sg.self {l l' : List (Nat × V)} : ∀ (k : Nat) {i : Nat}, selfOps P f p k i l = some l' → Sg P f p (i + k) (tl l') H n K → Sg P f p i (tl l) H n K := by
  intro k
  induction k generalizing l with
  | zero => intro i h hk; cases h; exact hk
  | succ k ih =>
    intro i h hk
    simp only [selfOps] at h
    split at h
    · rename_i l1 h1
      exact Sg.self1 h1 (ih h (by rw [show i + 1 + k = i + (k + 1) by omega]; exact hk))
    · cases h
noncomputable def selfD (P : Program) (f : Nat) (p : List Nat) (k i : Nat) (l : List (Nat × V)) : List (Nat × V) := match selfOps P f p k i l with | some l' => l' | none => []
theorem Sg.go {l : List (Nat × V)} (k : Nat) {i : Nat} (h : (selfOps P f p k i l).isSome = true) (hk : Sg P f p (i + k) (tl (selfD P f p k i l)) H n K) : Sg P f p i (tl l) H n K := by
  cases hs : selfOps P f p k i l with
  | none => rw [hs] at h; cases h
  | some l' =>
    refine Sg.self k hs ?_
    unfold selfD at hk
    rw [hs] at hk
    exact hk
noncomputable def getsL (A : Tm) : List Nat → Option (List (Nat × V))
  | [] => some []
  | t :: r => match A t, getsL A r with
    | some v, some l => some ((t, v) :: l)
    | _, _ => none
theorem getsL_spec {A : Tm} : ∀ {ts : List Nat} {l : List (Nat × V)}, getsL A ts = some l → AtL A l
  | [], l, h => by cases h; trivial
  | t :: r, l, h => by
    simp only [getsL] at h
    split at h
    · rename_i v l' h1 h2
      cases h
      exact ⟨h1, getsL_spec h2⟩
    · cases h
theorem To.only (ts : List Nat) (l : List (Nat × V)) (h : getsL A ts = some l) (k : To P f p (tl l) H n K) : To P f p A H n K := To.keep _ k (getsL_spec h).sub
theorem ToL.only (ts : List Nat) (l : List (Nat × V)) (h : getsL A ts = some l) (k : ToL P f p (tl l) H n K) : ToL P f p A H n K := ToL.keep _ k (getsL_spec h).sub
theorem Sg.only {i : Nat} (ts : List Nat) (l : List (Nat × V)) (h : getsL A ts = some l) (k : Sg P f p i (tl l) H n K) : Sg P f p i A H n K := Sg.keep _ (getsL_spec h) k
/-- what a function yields at its end -/
noncomputable def endV (P : Program) (f : Nat) (A : Tm) (H : Heap) : Option V := match P.funcs[f]? with
  | some fn => match resA P A H fn.results.toList with
    | some vs => resV vs
    | none => none
  | none => none
def EndK (P : Program) (f : Nat) (Post : V → Heap → Nat → Prop) : Ko := fun x A H n => (x = .normal ∨ x = .ret) ∧ ∃ v, endV P f A H = some v ∧ Post v H n
noncomputable def argL : List V → Nat → List (Nat × V)
  | [], _ => []
  | v :: r, k => (k, v) :: argL r (k + 1)
theorem argL_at : ∀ (args : List V) (k : Nat) (t : Nat) (v : V), tl (argL args k) t = some v → k ≤ t ∧ args[t - k]? = some v
  | [], k, t, v, h => by cases h
  | u :: r, k, t, v, h => by
    simp only [argL] at h
    rw [tl_cons] at h
    simp only [putA] at h
    by_cases e : t = k
    · subst e; rw [if_pos rfl] at h; cases h; simp
    · rw [if_neg e] at h
      obtain ⟨h1, h2⟩ := argL_at r (k + 1) t v h
      refine ⟨by omega, ?_⟩
      rw [show t - k = (t - (k + 1)) + 1 by omega, List.getElem?_cons_succ]
      exact h2
noncomputable def bodied (P : Program) (f : Nat) (k : Nat) : Bool := match P.funcs[f]? with | some fn => (match fn.body with | some _ => Nat.ble k fn.ntmps | none => false) | none => false
/-- A CALL, by its function's code -/
theorem CallsC.of_to {args : List V} {Post : V → Heap → Nat → Prop} (hb : bodied P f args.length = true) (h : To P f [] (tl (argL args 0)) H n (EndK P f Post)) : ∃ v H' n', CallsC P f args H n v H' n' ∧ Post v H' n' := by
  unfold bodied at hb
  split at hb
  · rename_i fn hf
    split at hb
    · rename_i c hc
      obtain ⟨x, A', H', n', h1, h2, v, h3, h4⟩ := h
      have e1 : codeAt P f [] = c := by simp only [codeAt, bodyAt, hf, hc]
      have e2 : ntm P f = fn.ntmps := by simp only [ntm, hf]
      rw [e1, e2] at h1
      simp only [endV, hf] at h3
      split at h3
      · rename_i vs hvs
        refine ⟨v, H', n', CallsC.of_runs hf hc (Nat.le_of_ble_eq_true hb) (h1.weak (fun t v ht => ?_) (fun _ _ h => h) (fun _ _ h => h) (Nat.le_refl _)) h2 hvs h3, h4⟩
        have := (argL_at args 0 t v ht).2
        simpa [argsA] using this
      · cases h3
    · cases hb
  · cases hb
end
end Go.Proofs.YtkimkgbppegkhaaGreat.Cm
