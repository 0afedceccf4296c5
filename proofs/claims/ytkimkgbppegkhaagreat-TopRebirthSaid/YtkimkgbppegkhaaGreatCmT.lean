/- The clean machine, reckoned: what a reckoning tells holds; operations and regions in order. No program is walked here. -/
import Derived.Test.YtkimkgbppegkhaaGreatCmR
namespace Go.Proofs.YtkimkgbppegkhaaGreat.Cm
open Go Go.RowKit
/-- from a name on nothing lies there -/
def Top (H : Heap) (n : Nat) : Prop := ∀ k, n ≤ k → H k = none
theorem Good.top {H H' : Heap} {n n' : Nat} (h : Good H n H' n') (ht : Top H n) : Top H' n' := fun k hk => by
  cases hq : H' k with
  | none => rfl
  | some o =>
    rcases h.2 k (by simp [hq]) with h1 | h1
    · exact absurd (ht k (Nat.le_trans h.1 hk)) h1
    · omega
/-- a reckoning of calls that tells the truth -/
def CallF.Ok (P : Program) (call : CallF) : Prop := ∀ f args H n v H' n', Top H.get n → call f args H n = some (v, H', n') → CallsC P f args H.get n v H'.get n'
theorem okNames_spec : ∀ {us : List (Nat × Option O)}, okNames us = true → ∀ p ∈ us, p.1 < lim
  | [], _, p, hp => by cases hp
  | q :: us, h, p, hp => by
    simp only [okNames] at h
    split at h
    · rename_i hq
      rcases List.mem_cons.1 hp with rfl | hp
      · have := Nat.le_of_ble_eq_true hq; omega
      · exact okNames_spec h p hp
    · cases h
theorem appT_get : ∀ (us : List (Nat × Option O)) (H : T O), (∀ p ∈ us, p.1 < lim) → (appT H us).get = app H.get us
  | [], H, _ => rfl
  | (i, o) :: us, H, h => by
    simp only [appT, app]
    rw [appT_get us _ fun p hp => h p (by simp [hp])]
    congr 1
    funext j
    rw [T.get_set _ _ _ (h (i, o) (by simp))]
    rfl
theorem putT_get (A : T V) (dst : Option Tmp) (v : V) (hd : ∀ d, dst = some d → d < lim) : (putT A dst v).get = putA A.get dst v := by
  cases dst with
  | none => rfl
  | some d =>
    funext t
    show (A.set d (some v)).get t = _
    rw [T.get_set _ _ _ (hd d rfl)]
    rfl
theorem behind_spec {A : T V} {dst : Option Tmp} {H : T O} {n : Nat} {o : Option Ef} {s : St} (hd : ∀ d, dst = some d → d < lim) (h : behind A dst H n o = some s) :
    ∃ ef, o = some ef ∧ s.A.get = putA A.get dst ef.1 ∧ s.H.get = app H.get ef.2.1 ∧ s.n = n + ef.2.2 := by
  cases o with
  | none => cases h
  | some ef =>
    obtain ⟨v, us, j⟩ := ef
    cases us with
    | nil => cases h; exact ⟨_, rfl, putT_get _ _ _ hd, rfl, rfl⟩
    | cons u us =>
      have h : @Bool.rec (fun _ => Option St) none (some ⟨putT A dst v, appT H (u :: us), Nat.add n j⟩) (okNames (u :: us)) = some s := h
      cases hk : okNames (u :: us) with
      | false => rw [hk] at h; cases h
      | true =>
        rw [hk] at h
        cases h
        exact ⟨_, rfl, putT_get _ _ _ hd, appT_get _ _ (okNames_spec hk), rfl⟩
theorem asBl_spec {v : V} {b : Bool} (h : asBl v = some b) : v = vf (.bool b) := by
  cases v with
  | tup l => cases h
  | u u =>
    cases u with
    | f x => cases x <;> first | (cases h; done) | (cases h; rfl)
    | agg l => cases h
    | fn a b => cases h
theorem onO_some {α β : Type} {o : Option α} {k : α → Option β} {y : β} (h : onO o k = some y) : ∃ x, o = some x ∧ k x = some y := by
  cases o with
  | none => cases h
  | some x => exact ⟨x, rfl, h⟩
theorem eqB_eq (a b : Bool) : eqB a b = (a == b) := by cases a <;> cases b <;> rfl
def wantW (want : Bool) (o : Option V) : Option Bool := match o with | some (.u (.f (.bool c))) => some (c == want) | some (.tup []) => some false | _ => none
theorem wantV_spec {want : Bool} {o : Option V} {b : Bool} (h : wantV want o = some b) : wantW want o = some b := by
  cases o with
  | none => cases h
  | some v =>
    cases v with
    | tup l => cases l <;> first | (cases h; done) | exact h
    | u u =>
      have h : onO (asBl (.u u)) (fun b => some (eqB b want)) = some b := h
      obtain ⟨c, h1, h2⟩ := onO_some h
      have h3 := asBl_spec h1
      cases h3
      rw [eqB_eq] at h2
      exact h2
theorem wantA_at {ops : Array Oper} {A : Tm} {o : Oper} {j : Nat} {want : Bool} {d : Tmp} (hg : o.guard = some (j, want)) (hd : (ops[j]?).bind (·.dst) = some d) : wantA ops A o = wantW want (A d) := by
  unfold wantA
  rw [hg]
  simp only
  rw [hd]
  rfl
section
variable {P : Program} {m : Nat} {ops : Array Oper} {call : CallF}
theorem wantO_spec {A : T V} {o : Oper} {b : Bool} (h : wantO ops A o = some b) : wantA ops A.get o = some b := by
  unfold wantO at h
  split at h
  · rename_i hg; unfold wantA; rw [hg]; exact h
  · rename_i j want hg
    split at h
    · rename_i d hd
      rw [wantA_at hg hd]
      exact wantV_spec h
    · cases h
theorem callS_spec (hc : CallF.Ok P call) {dst : Option Tmp} (hd : ∀ d, dst = some d → d < lim) {A : T V} {H : T O} {n : Nat} (ht : Top H.get n) {f : Option V} {args : Option (List V)} {s : St} (h : callS P call dst A H n f args = some s) :
    ∃ g caps l v, f = some (.u (.fn g caps)) ∧ args = some l ∧ fnOk P g = true ∧ CallsC P g (l ++ caps.map fun x => .u (.f x)) H.get n v s.H.get s.n ∧ s.A.get = putA A.get dst v := by
  unfold callS at h
  split at h
  · split at h
    · rename_i hg
      split at h
      · rename_i hr
        cases h
        exact ⟨_, _, _, _, rfl, rfl, hg, hc _ _ _ _ _ _ _ ht hr, putT_get _ _ _ hd⟩
      · cases h
    · cases h
  · cases h
theorem mkS1_spec (hc : CallF.Ok P call) {o : Oper} (hd : ∀ d, o.dst = some d → d < lim) {A : T V} {H : T O} {n : Nat} (ht : Top H.get n) {s : St} (h : (mkS1 P o.dst (mkC P o.op)).st call A H n = some s) :
    ∃ v, OpJ P o (evA A.get) H.get n v s.H.get s.n ∧ s.A.get = putA A.get o.dst v := by
  unfold mkS1 at h
  cases hk : mkC P o.op with
  | prim run =>
    rw [hk] at h
    obtain ⟨ef, h1, h2, h3, h4⟩ := behind_spec hd h
    rw [mkC_prim hk] at h1
    refine ⟨ef.1, ?_, h2⟩
    rw [h3, h4]
    exact .prim ef h1
  | call f xs =>
    rw [hk] at h
    obtain ⟨ats, ho⟩ := mkC_call hk
    obtain ⟨g, caps, l, v, h1, h2, h3, h4, h5⟩ := callS_spec hc hd ht h
    exact ⟨v, .call f xs.toArray ats g caps l v _ _ ho h1 (by simpa using h2) h3 h4, h5⟩
theorem mkS_spec (hc : CallF.Ok P call) {o : Oper} (hd : ∀ d, o.dst = some d → d < lim) {A : T V} {H : T O} {n : Nat} (ht : Top H.get n) {s : St} (h : (mkS P ops o).st call A H n = some s) :
    (wantA ops A.get o = some false ∧ s.A.get = putA A.get o.dst undefV ∧ s.H = H ∧ s.n = n) ∨ (wantA ops A.get o = some true ∧ ∃ v, OpJ P o (evA A.get) H.get n v s.H.get s.n ∧ s.A.get = putA A.get o.dst v) := by
  unfold mkS at h
  cases hg : o.guard with
  | none =>
    rw [hg] at h
    exact .inr ⟨by unfold wantA; rw [hg], mkS1_spec hc hd ht h⟩
  | some q =>
    obtain ⟨j, want⟩ := q
    rw [hg] at h
    simp only at h
    split at h
    · rename_i d hdj
      obtain ⟨b, h1, h2⟩ := onO_some h
      have hw : wantA ops A.get o = some b := by
        rw [wantA_at hg hdj]
        exact wantV_spec h1
      cases b with
      | false =>
        cases h2
        exact .inl ⟨hw, putT_get _ _ _ hd, rfl, rfl⟩
      | true => exact .inr ⟨hw, mkS1_spec hc hd ht h2⟩
    · cases h
theorem thenS_some {o : Option St} {k : T V → T O → Nat → Option St} {s : St} (h : thenS o k = some s) : ∃ s1, o = some s1 ∧ k s1.A s1.H s1.n = some s := by
  cases o with
  | none => cases h
  | some s1 => exact ⟨s1, rfl, h⟩
theorem evSeq_spec (hc : CallF.Ok P call) (hd : ∀ o ∈ ops.toList, ∀ d, o.dst = some d → d < m ∧ d < lim) : ∀ (l : List Oper) (k : Nat), ops.toList.drop k = l → ∀ (A : T V) (H : T O) (n : Nat) (s : St), Top H.get n →
    evSeq call (mkSs P ops l) A H n = some s → SeqJ P m ops (List.range' k l.length) A.get H.get n s.A.get s.H.get s.n
  | [], k, hl, A, H, n, s, ht, h => by cases h; exact .nil _ _ _
  | o :: l, k, hl, A, H, n, s, ht, h => by
    have hk : k < ops.toList.length := by
      rcases Nat.lt_or_ge k ops.toList.length with h' | h'
      · exact h'
      · rw [List.drop_of_length_le h'] at hl; cases hl
    have ho : ops[k]? = some o := by
      have := congrArg List.head? hl
      rw [List.head?_drop] at this
      simpa using this
    have hl' : ops.toList.drop (k + 1) = l := by
      have := congrArg List.tail hl
      rw [List.tail_drop] at this
      simpa using this
    have hmem : o ∈ ops.toList := by
      have : o ∈ ops.toList.drop k := by rw [hl]; simp
      exact List.mem_of_mem_drop this
    have hdo := hd o hmem
    have h : thenS ((mkS P ops o).st call A H n) (evSeq call (mkSs P ops l)) = some s := h
    obtain ⟨s1, h1, h2⟩ := thenS_some h
    have hs := mkS_spec hc (fun d hd' => (hdo d hd').2) ht h1
    have ht1 : Top s1.H.get s1.n := by
      rcases hs with ⟨g1, g2, g3, g4⟩ | ⟨g1, v, g2, g3⟩
      · rw [g3, g4]; exact ht
      · exact g2.good.top ht
    have ih := evSeq_spec hc hd l (k + 1) hl' _ _ _ _ ht1 h2
    rw [List.length_cons, List.range'_succ]
    rcases hs with ⟨g1, g2, g3, g4⟩ | ⟨g1, v, g2, g3⟩
    · rw [g2, g3, g4] at ih
      exact .skip k _ o _ _ _ _ _ _ ho (fun d hd' => (hdo d hd').1) g1 ih
    · rw [g3] at ih
      exact .op k _ o _ _ _ v _ _ _ _ _ ho (fun d hd' => (hdo d hd').1) g1 g2 ih
end
end Go.Proofs.YtkimkgbppegkhaaGreat.Cm
/- The clean machine, reckoned: what is seen of a region that draws its order, once for all; and that its reckoning tells the truth. No program is walked here. -/
namespace Go.Proofs.YtkimkgbppegkhaaGreat.Cm
open Go Go.RowKit
/-- what stands ahead of an operation, by its edges -/
noncomputable def edgesM (b : Nat → Nat) : List Edge → Nat → Nat
  | [], u => u
  | e :: r, u => edgesM b r (match Region.binds .any e with | true => Nat.lor (Nat.lor u (Nat.pow 2 e.on)) (b e.on) | false => u)
theorem edgesM_spec {b : Nat → Nat} {x : Nat} : ∀ {l : List Edge} {u : Nat}, (edgesM b l u).testBit x = true → u.testBit x = true ∨ ∃ e ∈ l, Region.binds .any e = true ∧ (e.on = x ∨ (b e.on).testBit x = true)
  | [], u, h => .inl h
  | e :: r, u, h => by
    rcases edgesM_spec (l := r) h with h1 | ⟨e', h1, h2⟩
    · split at h1
      · rename_i hb
        have h1 : ((u ||| 2 ^ e.on) ||| b e.on).testBit x = true := h1
        rw [Nat.testBit_or, Nat.testBit_or, Bool.or_eq_true, Bool.or_eq_true] at h1
        rcases h1 with (h1 | h1) | h1
        · exact .inl h1
        · rw [Nat.testBit_two_pow] at h1
          exact .inr ⟨e, by simp, hb, .inl (by simpa using h1)⟩
        · exact .inr ⟨e, by simp, hb, .inr h1⟩
      · exact .inl h1
    · exact .inr ⟨e', by simp [h1], h2⟩
noncomputable def cloB (b : Nat → Nat) : List Oper → Nat → Bool
  | [], _ => true
  | o :: r, i => match Nat.beq (Nat.land (b i) (edgesM b o.after.toList 0)) (b i) with
    | true => cloB b r (Nat.succ i)
    | false => false
theorem cloB_spec {b : Nat → Nat} : ∀ {l : List Oper} {k : Nat}, cloB b l k = true → ∀ y oy, l[y]? = some oy → ∀ x, (b (k + y)).testBit x = true → ∃ e ∈ oy.after, Region.binds .any e = true ∧ (e.on = x ∨ (b e.on).testBit x = true)
  | [], _, _, y, oy, h, _, _ => by simp at h
  | o :: r, k, hc, y, oy, h, x, hx => by
    simp only [cloB] at hc
    split at hc
    · rename_i hl
      cases y with
      | zero =>
        simp only [List.getElem?_cons_zero, Option.some.injEq] at h
        subst h
        have hl := Nat.eq_of_beq_eq_true hl
        have hl : b k &&& edgesM b o.after.toList 0 = b k := hl
        rw [Nat.add_zero, ← hl, Nat.testBit_and, Bool.and_eq_true] at hx
        rcases edgesM_spec hx.2 with h1 | h1
        · simp at h1
        · simpa using h1
      | succ y => exact cloB_spec hc y oy (by simpa using h) x (by rw [show k + 1 + y = k + (y + 1) by omega]; exact hx)
    · cases hc
/-- a row of unlike numbers below a bound -/
noncomputable def permB (k : Nat) : List Nat → Nat → Bool
  | [], _ => true
  | i :: r, mask => match Nat.ble (Nat.succ i) k, Nat.testBit mask i with
    | true, false => permB k r (Nat.lor mask (Nat.pow 2 i))
    | _, _ => false
theorem permB_spec {k : Nat} : ∀ {l : List Nat} {mask : Nat}, permB k l mask = true → l.Nodup ∧ ∀ i ∈ l, i < k ∧ mask.testBit i = false
  | [], _, _ => ⟨List.nodup_nil, fun i h => by cases h⟩
  | i :: r, mask, h => by
    simp only [permB] at h
    split at h
    · rename_i h1 h2
      obtain ⟨h3, h4⟩ := permB_spec h
      have hn : ∀ j ∈ r, j < k ∧ j ≠ i ∧ mask.testBit j = false := fun j hj => by
        obtain ⟨h5, h6⟩ := h4 j hj
        have h6 : (mask ||| 2 ^ i).testBit j = false := h6
        rw [Nat.testBit_or, Bool.or_eq_false_iff, Nat.testBit_two_pow] at h6
        exact ⟨h5, fun e => by subst e; simp at h6, h6.1⟩
      refine ⟨List.nodup_cons.2 ⟨fun hi => (hn i hi).2.1 rfl, h3⟩, fun j hj => ?_⟩
      rcases List.mem_cons.1 hj with rfl | hj
      · exact ⟨Nat.le_of_ble_eq_true h1, h2⟩
      · exact ⟨(hn j hj).1, (hn j hj).2.2⟩
    · cases h
/-- all numbers below a bound are there -/
noncomputable def fullB (L : List Nat) : Nat → Bool
  | 0 => true
  | k + 1 => match L.elem k with | true => fullB L k | false => false
theorem fullB_spec {L : List Nat} : ∀ {k : Nat}, fullB L k = true → ∀ i, i < k → i ∈ L
  | 0, _, i, h => by omega
  | k + 1, h, i, hi => by
    simp only [fullB] at h
    split at h
    · rename_i h1
      by_cases e : i = k
      · subst e; simpa using h1
      · exact fullB_spec h i (by omega)
    · cases h
/-- each edge's end stands ahead -/
noncomputable def aheadB (mask : Nat) : List Edge → Bool
  | [] => true
  | e :: r => match Region.binds .any e, Nat.testBit mask e.on with
    | true, false => false
    | _, _ => aheadB mask r
theorem aheadB_spec {mask : Nat} : ∀ {l : List Edge}, aheadB mask l = true → ∀ e ∈ l, Region.binds .any e = true → mask.testBit e.on = true
  | [], _, e, he, _ => by cases he
  | x :: r, h, e, he, hb => by
    simp only [aheadB] at h
    split at h
    · cases h
    · rename_i hne
      rcases List.mem_cons.1 he with rfl | he
      · cases hq : mask.testBit e.on with
        | true => rfl
        | false => exact absurd hq (hne hb)
      · exact aheadB_spec h e he hb
noncomputable def linB (ops : Array Oper) : List Nat → Nat → Bool
  | [], _ => true
  | i :: r, mask => match ops[i]? with
    | some o => match aheadB mask o.after.toList with
      | true => linB ops r (Nat.lor mask (Nat.pow 2 i))
      | false => false
    | none => false
theorem linB_spec {ops : Array Oper} : ∀ {l : List Nat} {mask : Nat} {ls : Array Bool}, linB ops l mask = true → ls.size = ops.size → (∀ j, mask.testBit j = true → ls.getD j false = true) → Lin ops ls l
  | [], _, _, _, _, _ => trivial
  | i :: r, mask, ls, h, hs, hm => by
    simp only [linB] at h
    split at h
    · rename_i o ho
      split at h
      · rename_i ha
        have hi : i < ops.size := (Array.getElem?_eq_some_iff.1 ho).1
        refine ⟨fun o' ho' e he hb => ?_, linB_spec h (by simp [hs]) fun j hj => ?_⟩
        · rw [ho] at ho'; cases ho'
          exact hm _ (aheadB_spec ha e (by simpa using he) hb)
        · have hj : (mask ||| 2 ^ i).testBit j = true := hj
          rw [Nat.testBit_or, Bool.or_eq_true, Nat.testBit_two_pow] at hj
          by_cases e : i = j
          · subst e
            have : i < ls.size := by omega
            simp [this]
          · rw [getD_set_ne _ e]
            rcases hj with hj | hj
            · exact hm j hj
            · exact absurd (by simpa using hj) e
      · cases h
    · cases h
/-- two operations, one standing ahead: bound, or free to be swapped -/
noncomputable def pairB (P : Program) (b : Nat → Nat) (ops : Array Oper) (x y : Nat) : Bool := match Nat.testBit (b y) x with
  | true => true
  | false => match Nat.testBit (b x) y, ops[x]?, ops[y]? with
    | false, some ox, some oy => match ox.apart ops oy with
      | true => match cls P oy.op, cls P ox.op with
        | .eff, .quiet => true
        | .eff, _ => false
        | _, _ => true
      | false => false
    | _, _, _ => false
def PairS (P : Program) (ops : Array Oper) (b : Nat → Nat) (x y : Nat) : Prop := (b y).testBit x = true ∨ ((b x).testBit y = false ∧ ∀ ox oy, ops[x]? = some ox → ops[y]? = some oy → ox.apart ops oy = true ∧ (cls P oy.op = .eff → cls P ox.op = .quiet))
theorem pairB_spec {P : Program} {b : Nat → Nat} {ops : Array Oper} {x y : Nat} (h : pairB P b ops x y = true) : PairS P ops b x y := by
  unfold pairB at h
  split at h
  · rename_i h1; exact .inl h1
  · split at h
    · rename_i ox oy h1 h2 h3
      split at h
      · rename_i h4
        refine .inr ⟨h1, fun ox' oy' e1 e2 => ?_⟩
        rw [h2] at e1; cases e1
        rw [h3] at e2; cases e2
        refine ⟨h4, fun he => ?_⟩
        split at h
        · assumption
        · cases h
        · rename_i hne _
          exact absurd he (by intro he; exact hne he)
      · cases h
    · cases h
noncomputable def pairs1 (P : Program) (b : Nat → Nat) (ops : Array Oper) (x : Nat) : List Nat → Bool
  | [] => true
  | y :: r => match pairB P b ops x y with | true => pairs1 P b ops x r | false => false
noncomputable def pairsB (P : Program) (b : Nat → Nat) (ops : Array Oper) : List Nat → Bool
  | [] => true
  | x :: r => match pairs1 P b ops x r with | true => pairsB P b ops r | false => false
theorem pairs1_spec {P : Program} {b : Nat → Nat} {ops : Array Oper} {x : Nat} : ∀ {l : List Nat}, pairs1 P b ops x l = true → ∀ y ∈ l, PairS P ops b x y
  | [], _, y, h => by cases h
  | z :: r, h, y, hy => by
    simp only [pairs1] at h
    split at h
    · rename_i h1
      rcases List.mem_cons.1 hy with rfl | hy
      · exact pairB_spec h1
      · exact pairs1_spec h y hy
    · cases h
theorem pairsB_spec {P : Program} {b : Nat → Nat} {ops : Array Oper} : ∀ {l : List Nat}, pairsB P b ops l = true → l.Pairwise (PairS P ops b)
  | [], _ => List.Pairwise.nil
  | x :: r, h => by
    simp only [pairsB] at h
    split at h
    · rename_i h1
      exact List.pairwise_cons.2 ⟨pairs1_spec h1, pairsB_spec h⟩
    · cases h
noncomputable def drawnOk (P : Program) (b : Nat → Nat) (ops : Array Oper) (L : List Nat) : Bool := match cloB b ops.toList 0, permB ops.size L 0, Nat.beq L.length ops.size, fullB L ops.size, linB ops L 0, pairsB P b ops L with
  | true, true, true, true, true, true => true
  | _, _, _, _, _, _ => false
theorem drawnOk_spec {P : Program} {b : Nat → Nat} {ops : Array Oper} {L : List Nat} (h : drawnOk P b ops L = true) :
    (∀ y oy, ops[y]? = some oy → ∀ x, (b y).testBit x = true → ∃ e ∈ oy.after, Region.binds .any e = true ∧ (e.on = x ∨ (b e.on).testBit x = true)) ∧ L.Nodup ∧ (∀ i, i ∈ L ↔ i < ops.size) ∧ L.length = ops.size ∧ Lin ops (Array.replicate ops.size false) L ∧ L.Pairwise (PairS P ops b) := by
  unfold drawnOk at h
  split at h
  · rename_i h1 h2 h3 h6 h4 h5
    obtain ⟨k1, k2⟩ := permB_spec h2
    have h3 := Nat.eq_of_beq_eq_true h3
    refine ⟨fun y oy hy x hx => cloB_spec h1 y oy (by simpa using hy) x (by simpa using hx), k1, fun i => ⟨fun hi => (k2 i hi).1, fullB_spec h6 i⟩, h3, linB_spec h4 (by simp) fun j hj => by simp at hj, pairsB_spec h5⟩
  · cases h
end Go.Proofs.YtkimkgbppegkhaaGreat.Cm
