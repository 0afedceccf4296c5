/- The clean machine's judgements: an operation, operations in order, code, calls; and that they tell of the true ones. No program is walked here. -/
import Derived.Test.YtkimkgbppegkhaaGreatCmO
import Derived.Calls
import Derived.LoopN
namespace Go.Proofs.YtkimkgbppegkhaaGreat.Cm
open Go Go.RowKit

structure RelA (ε : Env) (m : Nat) (A : Tm) (a : Act) : Prop where
  size : a.tmps.size = m
  defers : a.defers = []
  val : ∀ t v, A t = some v → RelV ε v (a.tmps.getD t undef)
noncomputable def evA (A : Tm) (x : Operand) : Option V := @Operand.rec (fun _ => Option V) (fun t => A t) (fun v => ofConst v) (fun _ => none) (fun f => some (.u (.fn f []))) x
def putA (A : Tm) : Option Tmp → V → Tm
  | some d, v => fun t => if t = d then some v else A t
  | none, _ => A
theorem RelA.mono {ε ε' : Env} {m : Nat} {A : Tm} {a : Act} (h : RelA ε m A a) (he : Le ε ε') : RelA ε' m A a := ⟨h.size, h.defers, fun t v hv => RelV.mono he (h.val t v hv)⟩
theorem RelA.sub {ε : Env} {m : Nat} {A B : Tm} {a : Act} (h : RelA ε m A a) (hB : ∀ t v, B t = some v → A t = some v) : RelA ε m B a := ⟨h.size, h.defers, fun t v hv => h.val t v (hB t v hv)⟩
theorem RelA.eval {ε : Env} {m : Nat} {A : Tm} {a : Act} (h : RelA ε m A a) (x : Operand) (u : V) (hx : evA A x = some u) : RelV ε u (a.eval x) := by
  cases x with
  | tmp t => exact h.val t u hx
  | const v => exact ofConst_rel hx ε
  | func f => have hx : some _ = some u := hx; cases hx; exact ⟨[], rfl, trivial⟩
  | global g => have hx : none = some u := hx; cases hx
theorem RelA.put {ε : Env} {m : Nat} {A : Tm} {a : Act} (h : RelA ε m A a) {dst : Option Tmp} (hd : ∀ d, dst = some d → d < m) {v : V} {rv : Value} (hv : RelV ε v rv) : RelA ε m (putA A dst v) (a.put dst rv) := by
  cases dst with
  | none => exact h
  | some d =>
    refine ⟨by simp [Act.put, h.size], h.defers, fun t u hu => ?_⟩
    simp only [putA] at hu
    have hlt := hd d rfl
    rw [← h.size] at hlt
    by_cases e : t = d
    · subst e
      rw [if_pos rfl] at hu
      cases hu
      simp only [Act.put]
      rw [Array.getD_eq_getD_getElem?, Array.getElem?_setIfInBounds_self_of_lt hlt]
      exact hv
    · rw [if_neg e] at hu
      simp only [Act.put]
      rw [Array.getD_eq_getD_getElem?, Array.getElem?_setIfInBounds_ne (Ne.symm e), ← Array.getD_eq_getD_getElem?]
      exact h.val t u hu
theorem undef_rel (ε : Env) : RelV ε undefV undef := ⟨[], rfl, trivial⟩

/-- names are counted up, and only new ones are added -/
def Good (H : Heap) (n : Nat) (H' : Heap) (n' : Nat) : Prop := n ≤ n' ∧ ∀ k, H' k ≠ none → H k ≠ none ∨ (n ≤ k ∧ k < n')
theorem Good.refl (H : Heap) (n : Nat) : Good H n H n := ⟨Nat.le_refl _, fun _ h => .inl h⟩
theorem Good.trans {H H1 H2 : Heap} {n n1 n2 : Nat} (a : Good H n H1 n1) (b : Good H1 n1 H2 n2) : Good H n H2 n2 := by
  obtain ⟨a1, a2⟩ := a
  obtain ⟨b1, b2⟩ := b
  refine ⟨by omega, fun k hk => ?_⟩
  rcases b2 k hk with h | h
  · rcases a2 k h with h | h
    · exact .inl h
    · exact .inr (by omega)
  · exact .inr (by omega)
/-- what a call comes to -/
def CallsC (P : Program) (f : FuncId) (args : List V) (H : Heap) (n : Nat) (v : V) (H' : Heap) (n' : Nat) : Prop :=
  Good H n H' n' ∧ ∀ ε w rargs, Rel ε H w → Free ε n n' → All2 (RelV ε) args rargs → Calls P f rargs.toArray w fun e w' => ∃ rv ε', e = .returned rv ∧ RelV ε' v rv ∧ Step ε H n w ε' H' n' w'
/-- a function with a body -/
def fnOk (P : Program) (g : FuncId) : Bool := match P.funcs[g]? with | some fn => fn.body.isSome && fn.name != "runtime.NumGoroutine" | none => false
/-- an operation: what it yields, what the heap is then -/
inductive OpJ (P : Program) (o : Oper) (r : Operand → Option V) (H : Heap) (n : Nat) : V → Heap → Nat → Prop where
  | prim (ef : Ef) (h : stepOp P o.op r H n = some ef) : OpJ P o r H n ef.1 (app H ef.2.1) (n + ef.2.2)
  | call (f : Operand) (xs : Array Operand) (ats : Array TypeId) (g : Nat) (caps : List F) (args : List V) (v : V) (H' : Heap) (n' : Nat) (ho : o.op = .call { callee := .value f, args := xs, argTypes := ats })
      (hf : r f = some (.u (.fn g caps))) (ha : valsA r xs.toList = some args) (hg : fnOk P g = true) (hc : CallsC P g (args ++ caps.map fun x => .u (.f x)) H n v H' n') : OpJ P o r H n v H' n'
theorem OpJ.le {P : Program} {o : Oper} {r : Operand → Option V} {H H' : Heap} {n n' : Nat} {v : V} (J : OpJ P o r H n v H' n') : n ≤ n' := by
  cases J with
  | prim ef h => omega
  | call f xs ats g caps args v H' n' ho hf ha hg hc => exact hc.1.1
theorem OpJ.good {P : Program} {o : Oper} {r : Operand → Option V} {H H' : Heap} {n n' : Nat} {v : V} (J : OpJ P o r H n v H' n') : Good H n H' n' := by
  cases J with
  | prim ef h =>
    refine ⟨by omega, fun k hk => ?_⟩
    have hT := tidy h
    by_cases hm : ∃ p ∈ ef.2.1, p.1 = k
    · obtain ⟨p, hp, rfl⟩ := hm
      rcases hT p hp with h1 | ⟨h1, h2⟩
      · exact .inl h1
      · exact .inr (by omega)
    · rw [app_none _ _ fun p hp e => hm ⟨p, hp, e⟩] at hk
      exact .inl hk
  | call f xs ats g caps args v H' n' ho hf ha hg hc => exact hc.1
theorem caps_all2 {ε : Env} : ∀ {caps : List F} {l : List Value}, All2 (RelF ε) caps l → All2 (RelV ε) (caps.map fun x => .u (.f x)) l
  | [], [], _ => trivial
  | _ :: _, _ :: _, H => ⟨H.1, caps_all2 H.2⟩
  | [], _ :: _, H => H.elim
  | _ :: _, [], H => H.elim
section
variable {P : Program} {m : Nat} {ops : Array Oper}
theorem opJ_wp {o : Oper} {A : Tm} {H H' : Heap} {n n' : Nat} {v : V} (J : OpJ P o (evA A) H n v H' n') {ε : Env} {a : Act} {w : World} (RA : RelA ε m A a) (R : Rel ε H w) (hf : Free ε n n') {K : Act → World → Prop} {Q : Exit → Act → World → Prop}
    (hK : ∀ ε' rv w', RelV ε' v rv → Step ε H n w ε' H' n' w' → K (a.put o.dst rv) w') : o.wp P a w K Q := by
  cases J with
  | prim ef h =>
    obtain ⟨rv, w', ε', hrun, h2, h3⟩ := step_sound (P := P) (ρ := a.eval) RA.eval R h hf
    unfold Oper.wp
    rcases hrun with hrun | ⟨hrun, rfl⟩
    · rw [hrun]; exact hK ε' rv w' h2 h3
    · rw [hrun]; exact hK ε' undef w' h2 h3
  | call f xs ats g caps args v H' n' ho hfv ha hg hc =>
    obtain ⟨l, hfe, hcaps⟩ := RA.eval f _ hfv
    have hargs := vals_rel RA.eval _ _ ha
    unfold fnOk at hg
    cases hfn : P.funcs[g]? with
    | none => rw [hfn] at hg; cases hg
    | some fn =>
      rw [hfn] at hg
      simp only [Bool.and_eq_true, bne_iff_ne, ne_eq] at hg
      have hrun : (execOp a.eval o).run P w = .ok (.enter g (xs.map a.eval ++ l.toArray)) w := by
        have h1 : (fn.name == "runtime.NumGoroutine") = false := by simpa using hg.2
        have h2 : fn.body.isNone = false := by
          cases hb : fn.body with
          | none => rw [hb] at hg; simp at hg
          | some b => rfl
        simp only [execOp, ho, resolve, hfe, Deferred.ofValue, Sem.run_bind, Sem.run_pure, Result.andThen_ok, invoke, callFunc, run_program, hfn, h1, h2, Bool.false_eq_true, if_false]
        simp
      unfold Oper.wp
      rw [hrun, Oper.upon_enter]
      have he : xs.map a.eval ++ l.toArray = (xs.toList.map a.eval ++ l).toArray := by apply Array.ext'; simp
      rw [he]
      refine Calls.mono (hc.2 ε w _ R hf (All2.append hargs ?_)) fun e w' hp => ?_
      · exact caps_all2 hcaps
      · obtain ⟨rv, ε', rfl, h1, h2⟩ := hp
        exact hK ε' rv w' h1 h2
/-- is an operation wanted? -/
def wantA (ops : Array Oper) (A : Tm) (o : Oper) : Option Bool :=
  match o.guard with
  | none => some true
  | some (j, want) => match (ops[j]?).bind (·.dst) with
    | some d => match A d with
      | some (.u (.f (.bool b))) => some (b == want)
      | some (.tup []) => some false
      | _ => none
    | none => none
theorem wantA_spec {A : Tm} {o : Oper} {b : Bool} (h : wantA ops A o = some b) {ε : Env} {a : Act} (RA : RelA ε m A a) : Region.wanted o (yielded ops a.tmps) = b := by
  unfold wantA at h
  unfold Region.wanted
  split at h
  · rename_i hg; rw [hg]; cases h; rfl
  · rename_i j want hg
    rw [hg]
    simp only [yielded]
    split at h
    · rename_i d hd
      rw [hd]
      simp only [Option.bind_some]
      split at h
      · rename_i c hA
        cases h
        have hv : a.tmps.getD d undef = .bool c := RA.val d _ hA
        have hlt : d < a.tmps.size := by
          rcases Nat.lt_or_ge d a.tmps.size with h' | h'
          · exact h'
          · rw [Array.getD_eq_getD_getElem?, Array.getElem?_eq_none h'] at hv; cases hv
        have hget : a.tmps[d]? = some (.bool c) := by
          rw [Array.getD_eq_getD_getElem?, Array.getElem?_eq_getElem hlt] at hv
          rw [Array.getElem?_eq_getElem hlt]
          simpa using hv
        rw [hget]
        cases c <;> cases want <;> rfl
      · rename_i hA
        cases h
        obtain ⟨l, hv, hl⟩ := RA.val d _ hA
        cases l with
        | cons _ _ => exact hl.elim
        | nil =>
          rw [Array.getD_eq_getD_getElem?] at hv
          cases hq : a.tmps[d]? with
          | none => rfl
          | some u =>
            rw [hq] at hv
            simp only [Option.getD_some] at hv
            subst hv
            rfl
      · cases h
    · cases h
/-- operations, in the order of a list -/
inductive SeqJ (P : Program) (m : Nat) (ops : Array Oper) : List Nat → Tm → Heap → Nat → Tm → Heap → Nat → Prop where
  | nil (A : Tm) (H : Heap) (n : Nat) : SeqJ P m ops [] A H n A H n
  | skip (i : Nat) (rest : List Nat) (o : Oper) (A : Tm) (H : Heap) (n : Nat) (A' : Tm) (H' : Heap) (n' : Nat) (ho : ops[i]? = some o) (hd : ∀ d, o.dst = some d → d < m) (hw : wantA ops A o = some false)
      (h : SeqJ P m ops rest (putA A o.dst undefV) H n A' H' n') : SeqJ P m ops (i :: rest) A H n A' H' n'
  | op (i : Nat) (rest : List Nat) (o : Oper) (A : Tm) (H : Heap) (n : Nat) (v : V) (H1 : Heap) (n1 : Nat) (A' : Tm) (H' : Heap) (n' : Nat) (ho : ops[i]? = some o) (hd : ∀ d, o.dst = some d → d < m) (hw : wantA ops A o = some true)
      (J : OpJ P o (evA A) H n v H1 n1) (h : SeqJ P m ops rest (putA A o.dst v) H1 n1 A' H' n') : SeqJ P m ops (i :: rest) A H n A' H' n'
theorem SeqJ.le {l : List Nat} {A A' : Tm} {H H' : Heap} {n n' : Nat} (J : SeqJ P m ops l A H n A' H' n') : n ≤ n' := by
  induction J with
  | nil => exact Nat.le_refl _
  | skip i rest o A H n A' H' n' ho hd hw h ih => exact ih
  | op i rest o A H n v H1 n1 A' H' n' ho hd hw J h ih => exact Nat.le_trans J.le ih
theorem SeqJ.good {l : List Nat} {A A' : Tm} {H H' : Heap} {n n' : Nat} (J : SeqJ P m ops l A H n A' H' n') : Good H n H' n' := by
  induction J with
  | nil => exact Good.refl _ _
  | skip i rest o A H n A' H' n' ho hd hw h ih => exact ih
  | op i rest o A H n v H1 n1 A' H' n' ho hd hw J h ih => exact J.good.trans ih
theorem seqJ_wp {l : List Nat} {A A' : Tm} {H H' : Heap} {n n' : Nat} (J : SeqJ P m ops l A H n A' H' n') : ∀ {ε : Env} {a : Act} {w : World} {Q : Exit → Act → World → Prop}, RelA ε m A a → Rel ε H w → Free ε n n' →
    (∀ ε' a' w', RelA ε' m A' a' → Step ε H n w ε' H' n' w' → Q .normal a' w') → wpOps P ops Q l a w := by
  induction J with
  | nil A H n => intro ε a w Q RA R _ hQ; exact hQ ε a w RA (Step.refl R)
  | skip i rest o A H n A' H' n' ho hd hw h ih =>
    intro ε a w Q RA R hf hQ
    simp only [wpOps, ho, wantA_spec hw RA, Bool.false_eq_true, if_false]
    exact ih (RA.put hd (undef_rel ε)) R hf hQ
  | op i rest o A H n v H1 n1 A' H' n' ho hd hw J h ih =>
    intro ε a w Q RA R hf hQ
    simp only [wpOps, ho, wantA_spec hw RA, if_true]
    refine .inl (opJ_wp J RA R (hf.sub (Nat.le_refl _) h.le) fun ε' rv w' h1 S => ?_)
    refine ih ((RA.mono S.ext).put hd h1) S.rel (S.free (hf.sub J.le (Nat.le_refl _)) (.inl (Nat.le_refl _))) fun ε2 a2 w2 RA2 S2 => hQ ε2 a2 w2 RA2 (S.trans S2)
/-- code: from a state, by an exit, to a state -/
def Runs (P : Program) (m : Nat) (c : Code) (A : Tm) (H : Heap) (n : Nat) (x : Exit) (A' : Tm) (H' : Heap) (n' : Nat) : Prop :=
  Good H n H' n' ∧ ∀ ε a w (Q : Exit → Act → World → Prop), RelA ε m A a → Rel ε H w → Free ε n n' → (∀ ε' a' w', RelA ε' m A' a' → Step ε H n w ε' H' n' w' → Q x a' w') → c.wp P Q a w
theorem Runs.skip {A : Tm} {H : Heap} {n : Nat} : Runs P m .skip A H n .normal A H n := ⟨Good.refl _ _, fun ε a w _ RA R _ hQ => wp_skip (hQ ε a w RA (Step.refl R))⟩
theorem Runs.exit {A : Tm} {H : Heap} {n i : Nat} : Runs P m (.exit i) A H n (.exit i) A H n := ⟨Good.refl _ _, fun ε a w _ RA R _ hQ => wp_exit (hQ ε a w RA (Step.refl R))⟩
theorem Runs.ret {A : Tm} {H : Heap} {n : Nat} : Runs P m .ret A H n .ret A H n := ⟨Good.refl _ _, fun ε a w _ RA R _ hQ => wp_ret (hQ ε a w RA (Step.refl R))⟩
theorem Runs.region {id : Nat} {A A' : Tm} {H H' : Heap} {n n' : Nat} (J : SeqJ P m ops (List.range ops.size) A H n A' H' n') : Runs P m (.region id ops false) A H n .normal A' H' n' :=
  ⟨J.good, fun _ _ _ _ RA R hf hQ => wp_region (seqJ_wp J RA R hf hQ)⟩
theorem Runs.seq {c d : Code} {A A1 A2 : Tm} {H H1 H2 : Heap} {n n1 n2 : Nat} {x : Exit} (h : Runs P m c A H n .normal A1 H1 n1) (k : Runs P m d A1 H1 n1 x A2 H2 n2) : Runs P m (.seq c d) A H n x A2 H2 n2 := by
  refine ⟨h.1.trans k.1, fun ε a w Q RA R hf hQ => wp_seq (h.2 ε a w _ RA R (hf.sub (Nat.le_refl _) k.1.1) fun ε' a' w' RA' S => ?_)⟩
  exact k.2 ε' a' w' Q RA' S.rel (S.free (hf.sub h.1.1 (Nat.le_refl _)) (.inl (Nat.le_refl _))) fun ε2 a2 w2 RA2 S2 => hQ ε2 a2 w2 RA2 (S.trans S2)
theorem Runs.seq_out {c d : Code} {A A1 : Tm} {H H1 : Heap} {n n1 : Nat} {x : Exit} (h : Runs P m c A H n x A1 H1 n1) (hx : x ≠ .normal) : Runs P m (.seq c d) A H n x A1 H1 n1 := by
  refine ⟨h.1, fun ε a w Q RA R hf hQ => wp_seq (h.2 ε a w _ RA R hf fun ε' a' w' RA' S => ?_)⟩
  cases x <;> first
    | exact absurd rfl hx
    | exact hQ ε' a' w' RA' S
theorem Runs.cond {c : Operand} {x y : Code} {b : Bool} {A A1 : Tm} {H H1 : Heap} {n n1 : Nat} {e : Exit} (hc : evA A c = some (vf (.bool b))) (h : Runs P m (if b then x else y) A H n e A1 H1 n1) : Runs P m (.cond c x y) A H n e A1 H1 n1 :=
  ⟨h.1, fun ε a w Q RA R hf hQ => wp_cond (RA.eval c _ hc) (h.2 ε a w Q RA R hf hQ)⟩
/-- behind a block -/
def outBlock (id : Nat) : Exit → Exit
  | .exit j => if j = id then .normal else .exit j
  | x => x
theorem Runs.block {id : Nat} {c : Code} {A A1 : Tm} {H H1 : Heap} {n n1 : Nat} {x : Exit} (h : Runs P m c A H n x A1 H1 n1) : Runs P m (.block id c) A H n (outBlock id x) A1 H1 n1 := by
  refine ⟨h.1, fun ε a w Q RA R hf hQ => wp_block (h.2 ε a w _ RA R hf fun ε' a' w' RA' S => ?_)⟩
  have := hQ ε' a' w' RA' S
  cases x <;> first
    | exact this
    | (simp only [outBlock] at this; simp only [Exit.inBlock]; split at this <;> simp_all)
/-- rounds of a loop's body -/
def Rounds (P : Program) (m : Nat) (c : Code) (A : Tm) (H : Heap) (n : Nat) (x : Exit) (A' : Tm) (H' : Heap) (n' : Nat) : Prop :=
  Good H n H' n' ∧ ∃ k, ∀ ε a w (Q : Exit → Act → World → Prop), RelA ε m A a → Rel ε H w → Free ε n n' → (∀ ε' a' w', RelA ε' m A' a' → Step ε H n w ε' H' n' w' → Q x a' w') → Code.rounds P c Q k a w
theorem Rounds.last {c : Code} {A A1 : Tm} {H H1 : Heap} {n n1 : Nat} {x : Exit} (h : Runs P m c A H n x A1 H1 n1) (hx : x ≠ .normal) : Rounds P m c A H n x A1 H1 n1 := by
  refine ⟨h.1, 1, fun ε a w Q RA R hf hQ => ?_⟩
  rw [rounds_succ]
  refine h.2 ε a w _ RA R hf fun ε' a' w' RA' S => ?_
  cases x <;> first
    | exact absurd rfl hx
    | exact hQ ε' a' w' RA' S
theorem Rounds.more {c : Code} {A A1 A2 : Tm} {H H1 H2 : Heap} {n n1 n2 : Nat} {x : Exit} (h : Runs P m c A H n .normal A1 H1 n1) (k : Rounds P m c A1 H1 n1 x A2 H2 n2) : Rounds P m c A H n x A2 H2 n2 := by
  obtain ⟨k1, r, k2⟩ := k
  refine ⟨h.1.trans k1, r + 1, fun ε a w Q RA R hf hQ => ?_⟩
  rw [rounds_succ]
  refine h.2 ε a w _ RA R (hf.sub (Nat.le_refl _) k1.1) fun ε' a' w' RA' S => ?_
  exact k2 ε' a' w' Q RA' S.rel (S.free (hf.sub h.1.1 (Nat.le_refl _)) (.inl (Nat.le_refl _))) fun ε2 a2 w2 RA2 S2 => hQ ε2 a2 w2 RA2 (S.trans S2)
theorem Runs.loop {c : Code} {A A1 : Tm} {H H1 : Heap} {n n1 : Nat} {x : Exit} (h : Rounds P m c A H n x A1 H1 n1) : Runs P m (.loop c) A H n x A1 H1 n1 := by
  obtain ⟨h1, k, h2⟩ := h
  exact ⟨h1, fun ε a w Q RA R hf hQ => wp_loop_rounds k (h2 ε a w Q RA R hf hQ)⟩
/-- less is known before, less behind -/
theorem Runs.weak {c : Code} {A B A' B' : Tm} {H G' H' : Heap} {n n' n2 : Nat} {x : Exit} (h : Runs P m c A H n x A' H' n') (hA : ∀ t v, A t = some v → B t = some v) (hA' : ∀ t v, B' t = some v → A' t = some v) (hG' : ∀ id o, G' id = some o → H' id = some o) (hn : n' ≤ n2) : Runs P m c B H n x B' G' n2 :=
  ⟨⟨Nat.le_trans h.1.1 hn, fun k hk => by
    rcases h.1.2 k (by cases hq : G' k with | none => exact absurd hq hk | some o => rw [hG' k o hq]; simp) with h1 | h1
    · exact .inl h1
    · exact .inr (by omega)⟩, fun ε a w Q RA R hf hQ => h.2 ε a w Q (RA.sub hA) R (hf.sub (Nat.le_refl _) hn) fun ε' a' w' RA' S => hQ ε' a' w' (RA'.sub hA') ((S.sub hG').wide (Nat.le_refl _) hn)⟩
/-- what a function's results are, of its temporaries and the heap -/
noncomputable def resA (P : Program) (A : Tm) (h : Heap) : List ResultVar → Option (List V)
  | [] => some []
  | .tmp t :: r => match A t, resA P A h r with
    | some v, some l => some (v :: l)
    | _, _ => none
  | .cell a t :: r => match A a, resA P A h r with
    | some (.u (.f (.ptr id off))), some l => match h id, aggB P t, sizeT P t with
      | some (.cells cs _), some true, some sz => if off + sz ≤ cs.length then some (.u (.agg ((cs.drop off).take sz)) :: l) else none
      | some (.cells cs _), some false, some _ => match cs[off]? with | some x => some (vf x :: l) | none => none
      | _, _, _ => none
    | _, _ => none
def unU : List V → Option (List U)
  | [] => some []
  | .u x :: r => match unU r with | some l => some (x :: l) | none => none
  | .tup _ :: _ => none
def resV : List V → Option V
  | [v] => some v
  | l => (unU l).map .tup
theorem unU_rel {ε : Env} : ∀ {l : List V} {us : List U} {vs : List Value}, unU l = some us → All2 (RelV ε) l vs → All2 (RelU ε) us vs
  | [], us, [], h, _ => by simp only [unU] at h; cases h; trivial
  | .u x :: r, us, v :: vs, h, H => by
    simp only [unU] at h
    split at h
    · rename_i l hl
      cases h
      exact ⟨H.1, unU_rel hl H.2⟩
    · cases h
  | .tup _ :: _, _, _, h, _ => by simp only [unU] at h; cases h
  | [], _, _ :: _, _, H => H.elim
  | .u _ :: _, _, [], _, H => H.elim
theorem run_res {ε : Env} {A : Tm} {a : Act} {H : Heap} {w : World} (RA : RelA ε m A a) (R : Rel ε H w) : ∀ (rs : List ResultVar) (vs : List V), resA P A H rs = some vs →
    ∃ l, (rs.mapM (fun (x : ResultVar) => match x with
      | .tmp t => (pure (a.tmps.getD t undef) : Sem Value)
      | .cell b t => do loadVar t (← asAddr (a.tmps.getD b undef)))).run P w = .ok l w ∧ All2 (RelV ε) vs l
  | [], vs, h => by simp only [resA] at h; cases h; exact ⟨[], rfl, trivial⟩
  | .tmp t :: r, vs, h => by
    simp only [resA] at h
    split at h
    · rename_i v l hv hl
      cases h
      obtain ⟨k, g1, g2⟩ := run_res RA R r l hl
      exact ⟨_ :: k, by simp only [List.mapM_cons, Sem.run_bind, Sem.run_pure, Result.andThen_ok, g1], RA.val t v hv, g2⟩
    · cases h
  | .cell b t :: r, vs, h => by
    simp only [resA] at h
    split at h
    · rename_i id off l hv hl
      obtain ⟨k, g1, g2⟩ := run_res RA R r l hl
      obtain ⟨bl, K, he, ha⟩ := RA.val b _ hv
      split at h
      · rename_i cs ex sz hc hag hsz
        obtain ⟨i, hi, rfl⟩ := sizeT_spec hsz
        obtain ⟨b', K', rcs, elem, fz, h1, h2, h3, h4, h5, h6⟩ := R.obj id _ hc
        rw [he] at h1; cases h1
        split at h
        · rename_i hle
          cases h
          have hl := all2_len h4
          refine ⟨.agg ((rcs.toList.drop off).take i.size).toArray :: k, ?_, ⟨_, rfl, ?_⟩, g2⟩
          · have qa : (asAddr (a.tmps.getD b undef)).run P w = .ok ⟨bl, off, none⟩ w := by rw [ha]; rfl
            have q : (loadVar t ⟨bl, off, none⟩).run P w = .ok (.agg ((rcs.toList.drop off).take i.size).toArray) w := by simp only [loadVar, Sem.run_bind, Sem.run_pure, Result.andThen_ok, run_aggB hag, if_true, run_size hi, run_loadCells_at h2 (show off + i.size ≤ rcs.size by omega)]
            rw [List.mapM_cons]
            simp only [Sem.run_bind, qa, q, Result.andThen_ok, g1, Sem.run_pure]
          · have := (h4.drop off).take i.size
            rw [List.drop_take, List.take_take, Nat.min_eq_left (by omega)] at this
            exact this
        · cases h
      · rename_i cs ex sz hc hag hsz
        obtain ⟨b', K', rcs, elem, fz, h1, h2, h3, h4, h5, h6⟩ := R.obj id _ hc
        rw [he] at h1; cases h1
        split at h
        · rename_i x hx
          cases h
          obtain ⟨v, q1, q2⟩ := all2_at h4 hx
          refine ⟨v :: k, ?_, q2, g2⟩
          have qa : (asAddr (a.tmps.getD b undef)).run P w = .ok ⟨bl, off, none⟩ w := by rw [ha]; rfl
          have q : (loadVar t ⟨bl, off, none⟩).run P w = .ok v w := by simp only [loadVar, Sem.run_bind, Sem.run_pure, Result.andThen_ok, run_aggB hag, if_false, Bool.false_eq_true, run_load, cell_at h2, q1]
          rw [List.mapM_cons]
          simp only [Sem.run_bind, qa, q, Result.andThen_ok, g1, Sem.run_pure]
        · cases h
      · cases h
    · cases h
theorem run_results {ε : Env} {A : Tm} {a : Act} {H : Heap} {w : World} {fn : Func} {vs : List V} {v : V} (RA : RelA ε m A a) (R : Rel ε H w) (h : resA P A H fn.results.toList = some vs) (hv : resV vs = some v) : ∃ rv, (results fn a.tmps).run P w = .ok rv w ∧ RelV ε v rv := by
  obtain ⟨l, g1, g2⟩ := run_res RA R _ _ h
  have hm : (results fn a.tmps).run P w = .ok (if h : l.toArray.size = 1 then l.toArray[0] else .tuple l.toArray) w := by
    simp only [results, Sem.run_bind, Array.mapM_eq_mapM_toList, Sem.run_map]
    refine Eq.trans (congrArg (fun r => (Result.andThen r _).andThen _) (show _ = Result.ok l w from g1)) ?_
    rfl
  cases vs with
  | nil =>
    cases l with
    | cons _ _ => exact g2.elim
    | nil => simp only [resV, unU, Option.map_some] at hv; cases hv; exact ⟨_, hm, [], rfl, trivial⟩
  | cons v1 vs =>
    cases vs with
    | nil =>
      cases l with
      | nil => exact g2.elim
      | cons x l => cases l with
        | nil => simp only [resV] at hv; cases hv; exact ⟨_, hm, g2.1⟩
        | cons _ _ => exact g2.2.elim
    | cons v2 vs =>
      simp only [resV, Option.map_eq_some_iff] at hv
      obtain ⟨us, hu, rfl⟩ := hv
      have hl := g2.length
      refine ⟨_, hm, l, ?_, unU_rel hu g2⟩
      rw [dif_neg (by simp; simp at hl; omega)]
/-- temporaries at a call's begin -/
def argsA (args : List V) : Tm := fun t => args[t]?
theorem CallsC.of_runs {f : FuncId} {fn : Func} {c : Code} {args vs : List V} {A' : Tm} {H H' : Heap} {n n' : Nat} {x : Exit} {v : V} (hf : P.funcs[f]? = some fn) (hb : fn.body = some c) (hn : args.length ≤ fn.ntmps)
    (h : Runs P fn.ntmps c (argsA args) H n x A' H' n') (hx : x = .normal ∨ x = .ret) (hr : resA P A' H' fn.results.toList = some vs) (hv : resV vs = some v) : CallsC P f args H n v H' n' := by
  refine ⟨h.1, fun ε w rargs R hfree hargs => calls_of_wp hf hb ?_⟩
  have hl := hargs.length
  refine h.2 ε _ w _ ⟨by simp; omega, rfl, fun t u hu => ?_⟩ R hfree fun ε' a' w' RA' S => ?_
  · obtain ⟨b, h1, h2⟩ := hargs.get t u hu
    rw [Array.getD_eq_getD_getElem?, Array.getElem?_append_left]
    · simpa [h1] using h2
    · rcases Nat.lt_or_ge t rargs.length with h' | h'
      · simpa using h'
      · rw [List.getElem?_eq_none h'] at h1; cases h1
  · obtain ⟨rv, k1, k2⟩ := run_results RA' S.rel hr hv
    rcases hx with rfl | rfl
    · exact ⟨RA'.defers, rv, k1, rv, ε', rfl, k2, S⟩
    · exact ⟨RA'.defers, rv, k1, rv, ε', rfl, k2, S⟩
/-- a call, where more lies in the heap -/
theorem CallsC.frame {f : FuncId} {args : List V} {H H' : Heap} {n n' : Nat} {v : V} {k : Nat} {ob : O} (hc : CallsC P f args H n v H' n') (hk : H k = none) (hk' : H' k = none) : CallsC P f args (upd H k (some ob)) n v (upd H' k (some ob)) n' := by
  have e : ∀ G : Heap, G k = none → upd G k (some ob) = G.or (upd (fun _ => none) k (some ob)) := by
    intro G hG
    funext j
    unfold Heap.or upd
    by_cases a : j = k
    · subst a; simp [hG]
    · simp [a]; cases G j <;> rfl
  refine ⟨⟨hc.1.1, fun j hj => ?_⟩, fun ε w rargs R hf ha => ?_⟩
  · by_cases a : j = k
    · subst a; left; rw [upd_same]; simp
    · rw [upd_ne _ _ a] at hj ⊢; exact hc.1.2 j hj
  refine Calls.mono (hc.2 ε w rargs (R.sub (mono_upd hk)) hf ha) fun x w' hp => ?_
  obtain ⟨rv, ε', h1, h2, S⟩ := hp
  refine ⟨rv, ε', h1, h2, ?_⟩
  rw [e H hk, e H' hk']
  rw [e H hk] at R
  refine S.frame R fun id hid => ?_
  rw [upd_ne]
  rintro rfl
  exact hid hk
end
end Go.Proofs.YtkimkgbppegkhaaGreat.Cm
