/- The clean machine's heaps in two parts: what stays as it is, and what is turned; calls that only make memory; more operations, one by one. No program is walked here. -/
import Derived.Test.YtkimkgbppegkhaaGreatFnE
import Derived.Test.YtkimkgbppegkhaaGreatFnR
namespace Go.Proofs.YtkimkgbppegkhaaGreat.Cm
open Go Go.RowKit Go.Proofs.YtkimkgbppegkhaaGreat.Gf
/-- X: what stays; M: what is turned -/
structure Sep (X H : Heap) (n : Nat) (M : List (Nat × O)) : Prop where
  mono : Mono X H
  top : Top H n
  own : ∀ p ∈ M, H p.1 = some p.2 ∧ X p.1 = none
  nod : (M.map (·.1)).Nodup
theorem Mono.rfl {X : Heap} : Mono X X := fun _ _ h => h
theorem Mono.tr {X Y Z : Heap} (h : Mono X Y) (k : Mono Y Z) : Mono X Z := fun id o ho => k id o (h id o ho)
section
variable {X H : Heap} {n : Nat} {M : List (Nat × O)}
theorem Sep.ini (ht : Top X n) : Sep X X n [] := ⟨Mono.rfl, ht, fun _ h => (by cases h), List.nodup_nil⟩
theorem Sep.topX (s : Sep X H n M) : Top X n := fun k hk => by
  cases hq : X k with
  | none => rfl
  | some o => have := s.mono k o hq; rw [s.top k hk] at this; cases this
theorem Sep.at (s : Sep X H n M) (j : Nat) {id : Nat} {ob : O} (h : M[j]? = some (id, ob)) : H id = some ob := (s.own _ (List.mem_of_getElem? h)).1
theorem Sep.lt (s : Sep X H n M) (j : Nat) {id : Nat} {ob : O} (h : M[j]? = some (id, ob)) : id < n := s.top.lt (s.at j h)
theorem Sep.newM (s : Sep X H n M) (ob : O) : Sep X (upd H n (some ob)) (n + 1) ((n, ob) :: M) := by
  refine ⟨upd_mono s.mono (s.topX n (Nat.le_refl _)), s.top.new ob, fun p hp => ?_, ?_⟩
  · rcases List.mem_cons.1 hp with rfl | hp
    · exact ⟨upd_same _ _ _, s.topX _ (Nat.le_refl _)⟩
    · obtain ⟨h1, h2⟩ := s.own p hp
      have := s.top.lt h1
      exact ⟨by rw [upd_ne _ _ (by omega)]; exact h1, h2⟩
  · rw [List.map_cons, List.nodup_cons]
    refine ⟨fun hm => ?_, s.nod⟩
    obtain ⟨p, hp, e⟩ := List.mem_map.1 hm
    have := s.top.lt (s.own p hp).1
    simp only at e
    omega
theorem Sep.newF (s : Sep X H n M) (ob : O) : Sep (upd X n (some ob)) (upd H n (some ob)) (n + 1) M := by
  refine ⟨fun id o h => ?_, s.top.new ob, fun p hp => ?_, s.nod⟩
  · by_cases e : id = n
    · subst e; rw [upd_same] at h ⊢; exact h
    · rw [upd_ne _ _ e] at h ⊢; exact s.mono _ _ h
  · obtain ⟨h1, h2⟩ := s.own p hp
    have := s.top.lt h1
    exact ⟨by rw [upd_ne _ _ (by omega)]; exact h1, by rw [upd_ne _ _ (by omega)]; exact h2⟩
theorem Sep.newX (s : Sep X H n M) (ob : O) : Mono X (upd X n (some ob)) := mono_upd (s.topX n (Nat.le_refl _))
theorem nod_set : ∀ {M : List (Nat × O)} {j id : Nat} {ob ob' : O}, M[j]? = some (id, ob) → (M.set j (id, ob')).map (·.1) = M.map (·.1)
  | [], _, _, _, _, h => by simp at h
  | p :: M, 0, id, ob, ob', h => by simp at h; subst h; rfl
  | p :: M, j + 1, id, ob, ob', h => by
    simp only [List.set_cons_succ, List.map_cons]
    rw [nod_set (by simpa using h)]
theorem nod_ne {M : List (Nat × O)} (h : (M.map (·.1)).Nodup) {j : Nat} {id : Nat} {ob : O} (hj : M[j]? = some (id, ob)) {p : Nat × O} (hp : p ∈ M) (hne : p ≠ (id, ob)) : p.1 ≠ id := by
  induction M generalizing j with
  | nil => cases hp
  | cons q M ih =>
    rw [List.map_cons, List.nodup_cons] at h
    cases j with
    | zero =>
      simp at hj
      subst hj
      rcases List.mem_cons.1 hp with rfl | hp
      · exact absurd rfl hne
      · intro e; exact h.1 (List.mem_map.2 ⟨p, hp, e⟩)
    | succ j =>
      simp at hj
      rcases List.mem_cons.1 hp with rfl | hp
      · intro e; exact h.1 (e ▸ List.mem_map_of_mem (List.mem_of_getElem? hj))
      · exact ih h.2 hj hp
theorem Sep.set (s : Sep X H n M) (j : Nat) {id : Nat} {ob : O} (hj : M[j]? = some (id, ob)) (ob' : O) : Sep X (upd H id (some ob')) n (M.set j (id, ob')) := by
  have hX : X id = none := (s.own _ (List.mem_of_getElem? hj)).2
  refine ⟨upd_mono s.mono hX, s.top.set (s.lt j hj) ob', fun p hp => ?_, by rw [nod_set hj]; exact s.nod⟩
  by_cases e : p.1 = id
  · have hn : ((M.set j (id, ob')).map (·.1)).Nodup := by rw [nod_set hj]; exact s.nod
    have hjl : j < M.length := by
      rcases Nat.lt_or_ge j M.length with h | h
      · exact h
      · rw [List.getElem?_eq_none h] at hj; cases hj
    have hj' : (M.set j (id, ob'))[j]? = some (id, ob') := List.getElem?_set_self hjl
    have : p = (id, ob') := Classical.byContradiction fun hne => nod_ne hn hj' hp hne e
    subst this
    exact ⟨upd_same _ _ _, hX⟩
  · rcases List.mem_or_eq_of_mem_set hp with h | rfl
    · obtain ⟨h1, h2⟩ := s.own p h
      exact ⟨by rw [upd_ne _ _ e]; exact h1, h2⟩
    · exact absurd rfl e
theorem Sep.sub (s : Sep X H n M) {M' : List (Nat × O)} (h : M'.Sublist M) : Sep X H n M' := ⟨s.mono, s.top, fun p hp => s.own p (h.subset hp), (h.map _).nodup s.nod⟩
theorem Sep.del (s : Sep X H n M) (j : Nat) : Sep X H n (M.eraseIdx j) := s.sub (List.eraseIdx_sublist ..)
theorem Sep.perm (s : Sep X H n M) {M' : List (Nat × O)} (h : M.Perm M') : Sep X H n M' := ⟨s.mono, s.top, fun p hp => s.own p (h.symm.subset hp), (h.map _).nodup_iff.1 s.nod⟩
theorem Sep.frz {id : Nat} {ob : O} (s : Sep X H n ((id, ob) :: M)) : Sep (upd X id (some ob)) H n M ∧ Mono X (upd X id (some ob)) := by
  obtain ⟨h1, h2⟩ := s.own (id, ob) (by simp)
  have hn := s.nod
  rw [List.map_cons, List.nodup_cons] at hn
  refine ⟨⟨fun k o h => ?_, s.top, fun p hp => ?_, hn.2⟩, mono_upd h2⟩
  · by_cases e : k = id
    · subst e; rw [upd_same] at h; cases h; exact h1
    · rw [upd_ne _ _ e] at h; exact s.mono _ _ h
  · obtain ⟨g1, g2⟩ := s.own p (by simp [hp])
    refine ⟨g1, ?_⟩
    rw [upd_ne]
    · exact g2
    · intro e; exact hn.1 (List.mem_map.2 ⟨p, hp, e⟩)
/-- what is called sees but what stays -/
theorem Sep.callA {P : Program} {f : Nat} {args : List V} {v : V} {X' H' : Heap} {n' : Nat} {M' : List (Nat × O)} (s : Sep X H n M) (hc : CallsC P f args X n v H' n') (hm : Mono X X') (s' : Sep X' H' n' M') :
    ∃ H2, CallsC P f args H n v H2 n' ∧ Sep X' H2 n' (M ++ M') := by
  obtain ⟨E, hE⟩ : ∃ E : Heap, E = fun k => match X k with | none => H k | some _ => none := ⟨_, _root_.rfl⟩
  have hEH : X.or E = H := by
    funext k
    unfold Heap.or
    rw [hE]
    cases hx : X k with
    | none => simp only [hx]
    | some o => simp only; exact (s.mono k o hx).symm
  have hEX : ∀ k, X k ≠ none → E k = none := fun k h => by
    rw [hE]
    cases hx : X k with
    | none => exact absurd hx h
    | some o => simp only [hx]
  have hEn : ∀ k, E k ≠ none → k < n ∧ X k = none := fun k h => by
    rw [hE] at h
    cases hx : X k with
    | some o => simp only [hx] at h; exact absurd _root_.rfl h
    | none =>
      simp only [hx] at h
      cases hh : H k with
      | none => exact absurd hh h
      | some o => exact ⟨s.top.lt hh, _root_.rfl⟩
  have hE' : ∀ k, H' k ≠ none → E k = none := fun k h => by
    cases he : E k with
    | none => rfl
    | some o =>
      obtain ⟨h1, h2⟩ := hEn k (by rw [he]; simp)
      rcases hc.1.2 k h with h3 | h3
      · exact absurd h2 h3
      · omega
  have hb := hc.beside E (fun k h => hEX k h) hE'
  rw [hEH] at hb
  have hle := hc.1.1
  have hM : ∀ p ∈ M, E p.1 = some p.2 ∧ p.1 < n := fun p hp => by
    obtain ⟨h1, h2⟩ := s.own p hp
    exact ⟨by rw [hE]; simp only [h2]; exact h1, s.top.lt h1⟩
  have hM' : ∀ p ∈ M', n ≤ p.1 := fun p hp => by
    obtain ⟨h1, h2⟩ := s'.own p hp
    rcases hc.1.2 p.1 (by rw [h1]; simp) with h3 | h3
    · cases hx : X p.1 with
      | none => exact absurd hx h3
      | some o => have := hm _ _ hx; rw [h2] at this; cases this
    · exact h3.1
  refine ⟨_, hb, fun id o h => Heap.or_left (s'.mono id o h), fun k hk => ?_, fun p hp => ?_, ?_⟩
  · rw [Heap.or_right (s'.top k hk)]
    cases he : E k with
    | none => rfl
    | some o => have := (hEn k (by rw [he]; simp)).1; omega
  · rcases List.mem_append.1 hp with hp | hp
    · obtain ⟨h1, h2⟩ := hM p hp
      have h3 : H' p.1 = none := by
        cases hq : H' p.1 with
        | none => rfl
        | some o => have := hE' p.1 (by rw [hq]; simp); rw [h1] at this; cases this
      refine ⟨by rw [Heap.or_right h3]; exact h1, ?_⟩
      cases hx : X' p.1 with
      | none => rfl
      | some o => have := s'.mono _ _ hx; rw [h3] at this; cases this
    · obtain ⟨h1, h2⟩ := s'.own p hp
      exact ⟨Heap.or_left h1, h2⟩
  · rw [List.map_append]
    refine List.nodup_append.2 ⟨s.nod, s'.nod, fun a ha b hb' e => ?_⟩
    obtain ⟨p, hp, rfl⟩ := List.mem_map.1 ha
    obtain ⟨q, hq, rfl⟩ := List.mem_map.1 hb'
    have h1 := (hM p hp).2
    have h2 := hM' q hq
    omega
theorem Sep.call {P : Program} {f : Nat} {args : List V} {v : V} {X' : Heap} {n' : Nat} (s : Sep X H n M) (hc : CallsC P f args X n v X' n') (hm : Mono X X') (ht : Top X' n') : ∃ H2, CallsC P f args H n v H2 n' ∧ Sep X' H2 n' M := by
  obtain ⟨H2, h1, h2⟩ := s.callA hc hm (Sep.ini ht)
  rw [List.append_nil] at h2
  exact ⟨H2, h1, h2⟩
/-- a call that sees all, and turns nothing -/
theorem Sep.callH {P : Program} {f : Nat} {args : List V} {v : V} {H' : Heap} {n' : Nat} (s : Sep X H n M) (_ : CallsC P f args H n v H' n') (hm : Mono H H') (ht : Top H' n') : Sep X H' n' M :=
  ⟨s.mono.tr hm, ht, fun p hp => ⟨hm _ _ (s.own p hp).1, (s.own p hp).2⟩, s.nod⟩
end
/-- a call that only makes memory -/
def PureC (f : Nat) (args : List V) (X : Heap) (n : Nat) (Post : V → Heap → Prop) : Prop := ∃ v X' n', CallsC Tryz.prog f args X n v X' n' ∧ Mono X X' ∧ Top X' n' ∧ Post v X'
theorem PureC.of_to {f : Nat} {args : List V} {X : Heap} {n : Nat} {Post : V → Heap → Prop} (hb : bodied Tryz.prog f args.length = true)
    (h : To Tryz.prog f [] (tl (argL args 0)) X n (EndK Tryz.prog f fun v H n' => ∃ X' M, Sep X' H n' M ∧ Mono X X' ∧ Post v X')) : PureC f args X n Post := by
  obtain ⟨v, H', n', h1, X', M, s, h2, h3⟩ := CallsC.of_to hb h
  exact ⟨v, X', n', h1.less s.mono (Nat.le_refl _), h2, s.topX, h3⟩
theorem PureC.imp {f : Nat} {args : List V} {X : Heap} {n : Nat} {Post Post' : V → Heap → Prop} (h : PureC f args X n Post) (hp : ∀ v X', Post v X' → Post' v X') : PureC f args X n Post' := by
  obtain ⟨v, X', n', h1, h2, h3, h4⟩ := h
  exact ⟨v, X', n', h1, h2, h3, hp _ _ h4⟩
/-- a call that makes memory, some of which may be turned -/
def MakeC (f : Nat) (args : List V) (X : Heap) (n : Nat) (Post : V → Heap → List (Nat × O) → Prop) : Prop := ∃ v X' H' n' M', CallsC Tryz.prog f args X n v H' n' ∧ Mono X X' ∧ Sep X' H' n' M' ∧ Post v X' M'
theorem MakeC.of_to {f : Nat} {args : List V} {X : Heap} {n : Nat} {Post : V → Heap → List (Nat × O) → Prop} (hb : bodied Tryz.prog f args.length = true)
    (h : To Tryz.prog f [] (tl (argL args 0)) X n (EndK Tryz.prog f fun v H n' => ∃ X' M, Sep X' H n' M ∧ Mono X X' ∧ Post v X' M)) : MakeC f args X n Post := by
  obtain ⟨v, H', n', h1, X', M, s, h2, h3⟩ := CallsC.of_to hb h
  exact ⟨v, X', H', n', M, h1, h2, s, h3⟩
/-- a list that grows by append: nothing yet, or a block of its own -/
def AccF (sz : Nat) (a : F) (fs : List F) : Prop := (a = .sl0 ∧ fs = []) ∨ ∃ k len, a = .sl k 0 sz len none ∧ fs.length = len * sz
def accM (a : F) (fs : List F) : List (Nat × O) := match a with
  | .sl k _ _ _ _ => [(k, .cells fs false)]
  | _ => []
theorem AccF.nil (sz : Nat) : AccF sz .sl0 [] := .inl ⟨rfl, rfl⟩
theorem AccF.len {sz : Nat} {a : F} {fs : List F} (h : AccF sz a fs) : ∃ len, lenA a = some len ∧ fs.length = len * sz := by
  rcases h with ⟨rfl, rfl⟩ | ⟨k, len, rfl, h⟩
  · exact ⟨0, rfl, by simp⟩
  · exact ⟨len, rfl, h⟩
theorem AccF.row {X H : Heap} {n sz : Nat} {M1 M2 : List (Nat × O)} {a : F} {fs : List F} (h : AccF sz a fs) (s : Sep X H n (M1 ++ (accM a fs ++ M2))) : rowA H sz a = some fs := by
  rcases h with ⟨rfl, rfl⟩ | ⟨k, len, rfl, h⟩
  · rfl
  · have := (s.own (k, .cells fs false) (by simp [accM])).1
    simp only at this
    simp only [rowA, if_true, this]
    rw [if_pos (by omega)]
    simp [← h]
/-- append, to a list that grows -/
theorem jAcc {X H : Heap} {n sz bytes m : Nat} {M1 M2 : List (Nat × O)} {a x : F} {fs new : List F} (s : Sep X H n (M1 ++ (accM a fs ++ M2))) (ha : AccF sz a fs) (hx : rowA H sz x = some new) (hm : lenA x = some m) (hsz : 0 < sz) (hb : (fs.length + m) * bytes * 2 ≤ 140737488355328) :
    ∃ a' H' n', AccF sz a' (fs ++ new) ∧ Sep X H' n' (M1 ++ (accM a' (fs ++ new) ++ M2)) ∧ ∀ (o : Oper) (r : Operand → Option V), apK Tryz.prog o r = some (sz, bytes, a, x) → OpJ Tryz.prog o r H n (vf a') H' n' := by
  have hnew : new.length = m * sz := by
    cases x <;> simp only [lenA] at hm <;> first
      | (cases hm; done)
      | skip
    · cases hm
      simp only [rowA, Option.some.injEq] at hx
      subst hx; simp
    · cases hm
      exact (rowA_at hx).2.1
  rcases ha with ⟨rfl, rfl⟩ | ⟨k, len, rfl, hl⟩
  · by_cases h0 : m = 0
    · have hn0 : new = [] := List.eq_nil_of_length_eq_zero (by rw [hnew, h0]; simp)
      subst hn0
      refine ⟨.sl0, H, n, .inl ⟨rfl, rfl⟩, s, fun o r hk => ?_⟩
      exact jApp hx hm (ef := (vf .sl0, [], 0)) (by simp [appendA, h0]) hk
    · have hbb : m * bytes * 2 ≤ 140737488355328 := by simpa using hb
      refine ⟨.sl n 0 sz m none, upd H n (some (.cells new false)), n + 1, .inr ⟨n, m, rfl, by simpa using hnew⟩, ?_, fun o r hk => ?_⟩
      · refine (s.newM (.cells new false)).perm ?_
        simp only [accM, List.nil_append]
        exact List.perm_middle.symm
      · exact jApp hx hm (ef := (vf (.sl n 0 sz m none), [(n, some (.cells new false))], 1)) (by simp [appendA, h0, hbb]) hk
  · have hk0 := s.own (k, .cells fs false) (by simp [accM])
    obtain ⟨hk1, hk2⟩ := hk0
    simp only at hk1 hk2
    have hmulb : (len + m) * bytes * 2 ≤ 140737488355328 := by
      refine Nat.le_trans (Nat.mul_le_mul_right _ (Nat.mul_le_mul_right _ ?_)) hb
      have : len ≤ len * sz := Nat.le_mul_of_pos_right _ hsz
      omega
    by_cases h0 : m = 0
    · have hn0 : new = [] := List.eq_nil_of_length_eq_zero (by rw [hnew, h0]; simp)
      subst hn0
      refine ⟨.sl k 0 sz len none, H, n, .inr ⟨k, len, rfl, by simpa using hl⟩, by simpa using s, fun o r hk => ?_⟩
      have := jApp (n := n) hx hm (ef := (vf (.sl k 0 sz (len + m) none), [(k, some (.cells (splice fs (0 + len * sz) []) false))], 0)) (bytes := bytes) (s := .sl k 0 sz len none) (by
        simp only [appendA, if_true, hk1]
        rw [if_pos (by omega), if_pos hmulb, if_pos (by rw [h0]; simp; omega)]) hk
      rw [splice_nil, h0] at this
      simp only [app, Nat.add_zero] at this
      rw [upd_self hk1] at this
      exact this
    · have hmpos : 0 < m * sz := Nat.mul_pos (by omega) hsz
      refine ⟨.sl n 0 sz (len + m) none, upd (upd H k none) n (some (.cells (fs ++ new) false)), n + 1, .inr ⟨n, len + m, rfl, by rw [List.length_append, hl, hnew, Nat.add_mul]⟩, ?_, fun o r hk => ?_⟩
      · have s1 : Sep X (upd H k none) n (M1 ++ M2) := by
          have hn := s.nod
          simp only [accM, List.singleton_append] at hn
          have hp : (M1 ++ (k, O.cells fs false) :: M2).Perm ((k, O.cells fs false) :: (M1 ++ M2)) := List.perm_middle
          have hn2 := (hp.map (·.1)).nodup_iff.1 hn
          rw [List.map_cons, List.nodup_cons] at hn2
          refine ⟨fun id o h => ?_, fun j hj => ?_, fun p hp => ?_, hn2.2⟩
          · rw [upd_ne]
            · exact s.mono _ _ h
            · rintro rfl; rw [hk2] at h; cases h
          · by_cases e : j = k
            · subst e; exact upd_same _ _ _
            · rw [upd_ne _ _ e]; exact s.top j hj
          · obtain ⟨g1, g2⟩ := s.own p (by simp only [accM, List.singleton_append, List.mem_append, List.mem_cons] at hp ⊢; rcases hp with hp | hp <;> simp [hp])
            refine ⟨?_, g2⟩
            rw [upd_ne]
            · exact g1
            · intro e; exact hn2.1 (List.mem_map.2 ⟨p, hp, e⟩)
        refine (s1.newM (.cells (fs ++ new) false)).perm ?_
        simp only [accM, List.singleton_append]
        exact List.perm_middle.symm
      · have := jApp (n := n) hx hm (ef := (vf (.sl n 0 sz (len + m) none), [(k, none), (n, some (.cells (fs.take (len * sz) ++ new) false))], 1)) (bytes := bytes) (s := .sl k 0 sz len none) (by
          have e1 : ¬ (0 + (len + m) * sz ≤ fs.length) := by rw [Nat.add_mul]; omega
          simp only [appendA, if_true, hk1]
          rw [if_pos (by omega), if_pos hmulb, if_neg e1]
          simp) hk
        rw [List.take_of_length_le (by omega)] at this
        exact this
/-- a list that has grown stays -/
theorem Sep.acc {X H : Heap} {n sz : Nat} {M1 M2 : List (Nat × O)} {a : F} {fs : List F} (s : Sep X H n (M1 ++ (accM a fs ++ M2))) (ha : AccF sz a fs) : ∃ X', Mono X X' ∧ Sep X' H n (M1 ++ M2) ∧ rowA X' sz a = some fs ∧ (∀ k o z l c, a = .sl k o z l c → X' k = some (.cells fs false)) := by
  rcases ha with ⟨rfl, rfl⟩ | ⟨k, len, rfl, hl⟩
  · exact ⟨X, Mono.rfl, s, rfl, fun _ _ _ _ _ h => by cases h⟩
  · have s2 := s.perm (show (M1 ++ (accM (.sl k 0 sz len none) fs ++ M2)).Perm ((k, .cells fs false) :: (M1 ++ M2)) by
      simp only [accM, List.singleton_append]
      exact List.perm_middle)
    obtain ⟨h1, h2⟩ := s2.frz
    refine ⟨_, h2, h1, ?_, fun k' o z l c h => by cases h; exact upd_same _ _ _⟩
    simp only [rowA, if_true, upd_same]
    rw [if_pos (by omega)]
    simp [← hl]
/-- a loop, by what holds at each round's begin -/
theorem ToL.for {P : Program} {f : Nat} {p : List Nat} {K : Ko} (N : Nat) (I : Nat → Tm → Heap → Nat → Prop) {A : Tm} {H : Heap} {n : Nat} (h0 : I 0 A H n)
    (step : ∀ i A H n, i < N → I i A H n → To P f p A H n fun x A' H' n' => (x = .normal ∧ I (i + 1) A' H' n') ∨ (x ≠ .normal ∧ K x A' H' n'))
    (stop : ∀ A H n, I N A H n → To P f p A H n fun x A' H' n' => x ≠ .normal ∧ K x A' H' n') : ToL P f p A H n K := by
  have : ∀ (k i : Nat), i + k = N → ∀ A H n, I i A H n → ToL P f p A H n K := by
    intro k
    induction k with
    | zero =>
      intro i hi A H n hI
      have hi : i = N := by omega
      subst hi
      refine ToL.round ((stop A H n hI).imp fun x A' H' n' h => ?_)
      obtain ⟨h1, h2⟩ := h
      cases x <;> first
        | exact absurd rfl h1
        | exact h2
    | succ k ih =>
      intro i hi A H n hI
      refine ToL.round ((step i A H n (by omega) hI).imp fun x A' H' n' h => ?_)
      rcases h with ⟨rfl, h⟩ | ⟨h1, h2⟩
      · exact ih (i + 1) (by omega) _ _ _ h
      · cases x <;> first
          | exact absurd rfl h1
          | exact h2
  exact this N 0 (by omega) A H n h0
section
variable {P : Program} {H : Heap} {n : Nat} {o : Oper} {r : Operand → Option V}
theorem jStoreE {id off : Nat} {new cs cs' : List F} {ex : Bool} (hh : H id = some (.cells cs ex)) (hle : off + new.length ≤ cs.length) (hs : splice cs off new = cs') (hk : stK P o r = some (id, off, new)) : OpJ P o r H n undefV (upd H id (some (.cells cs' ex))) n := hs ▸ jStore hh hle hk
theorem jLoadAE {id off sz : Nat} {cs c : List F} {ex : Bool} (hh : H id = some (.cells cs ex)) (hx : off + sz ≤ cs.length) (hc : (cs.drop off).take sz = c) (hk : ldAK P o r = some (id, off, sz)) : OpJ P o r H n (.u (.agg c)) H n := hc ▸ jLoadA hh hx hk
noncomputable def lenXK (P : Program) (o : Oper) (r : Operand → Option V) : Option F := match o.op with
  | .call { callee := .builtin .len, args := xs, argTypes := ats } => match valsA r xs.toList, ats[0]? with
    | some [.u (.f x)], some t => match P.underlying t with
      | some (.slice _) => some x
      | _ => none
    | _, _ => none
  | _ => none
theorem jLenV {x : F} {l : Nat} (hx : lenA x = some l) (hk : lenXK P o r = some x) : OpJ P o r H n (vi l) H n := by
  unfold lenXK at hk
  split at hk
  · rename_i xs ats ho
    split at hk
    · rename_i x t h1 h2
      split at hk
      · rename_i e h3
        cases hk
        exact .prim (vi l, [], 0) (by simp only [ho, stepOp, h1, builtinA, h2, lenB, h3, hx])
      · cases hk
    · cases hk
  · cases hk
noncomputable def slK (P : Program) (o : Oper) (r : Operand → Option V) : Option (F × Nat × Option Nat × Option Nat) := match o.op with
  | .slice t x lo hi none => match r x, optNat r lo, optNat r hi with
    | some (.u (.f x)), some lo, some hi => match P.underlying t with
      | some (.slice e) => match sizeT P e with
        | some sz => some (x, sz, lo, hi)
        | none => none
      | _ => none
    | _, _, _ => none
  | _ => none
/-- a slice's cut -/
theorem jSlice {id off sz len L l h : Nat} {cap : Option Nat} {lo hi : Option Nat} (hL : (H id).bind sizeO = some L) (hl : lo.getD 0 = l) (hh : hi.getD len = h) (hlh : l ≤ h) (hhL : off + h * sz ≤ L) (hc : ∀ c, cap = some c → h ≤ c) (hsz : 0 < sz)
    (hk : slK P o r = some (.sl id off sz len cap, sz, lo, hi)) : OpJ P o r H n (vf (.sl id (off + l * sz) sz (h - l) (cap.map (· - l)))) H n := by
  unfold slK at hk
  split at hk
  · rename_i t x lo' hi' ho
    split at hk
    · rename_i x' lo2 hi2 h1 h2 h3
      split at hk
      · rename_i e hu
        split at hk
        · rename_i sz' hsz'
          cases hk
          have hmx : optNat r none = some none := rfl
          refine .prim (vf (.sl id (off + l * sz) sz (h - l) (cap.map (· - l))), [], 0) ?_
          have hkn : h ≤ cap.getD ((L - off) / sz) := by
            cases cap with
            | some c => exact hc c rfl
            | none =>
              simp only [Option.getD_none]
              exact (Nat.le_div_iff_mul_le hsz).2 (by omega)
          have hcut : cutA len (cap.getD ((L - off) / sz)) cap lo hi none = some (l, h, cap) := by
            simp only [cutA, hl, hh]
            rw [if_pos ⟨hkn, hlh⟩]
          simp only [ho, stepOp, h1, h2, h3, hmx, hu, hsz', hL, hcut]
          rw [if_pos ⟨trivial, hsz, by omega⟩]
        · cases hk
      · cases hk
    · cases hk
  · cases hk
theorem jSlice0 {sz : Nat} {lo hi : Option Nat} (hl : lo.getD 0 = 0) (hh : hi.getD 0 = 0) (hk : slK P o r = some (.sl0, sz, lo, hi)) : OpJ P o r H n (vf .sl0) H n := by
  unfold slK at hk
  split at hk
  · rename_i t x lo' hi' ho
    split at hk
    · rename_i x' lo2 hi2 h1 h2 h3
      split at hk
      · rename_i e hu
        split at hk
        · rename_i sz' hsz'
          cases hk
          have hmx : optNat r none = some none := rfl
          refine .prim (vf .sl0, [], 0) ?_
          simp only [ho, stepOp, h1, h2, h3, hmx, hu, hsz', cutA, hl, hh]
          rfl
        · cases hk
      · cases hk
    · cases hk
  · cases hk
noncomputable def eqK (P : Program) (o : Oper) (r : Operand → Option V) : Option (Bool × List Bool × List F × List F) := match o.op with
  | .binOp op t x y _ => match r x, r y, plainT P t with
    | some (.u (.agg xs)), some (.u (.agg ys)), some ks => match op with
      | .eql => some (true, ks, xs, ys)
      | .neq => some (false, ks, xs, ys)
      | _ => none
    | _, _, _ => none
  | _ => none
theorem jEqA {e z : Bool} {ks : List Bool} {xs ys : List F} (h : eqFs ks xs ys = some (z == e)) (hk : eqK P o r = some (e, ks, xs, ys)) : OpJ P o r H n (vf (.bool z)) H n := by
  unfold eqK at hk
  split at hk
  · rename_i op t x y t' ho
    split at hk
    · rename_i xs' ys' ks' h1 h2 h3
      split at hk
      · cases hk
        exact .prim (vf (.bool z), [], 0) (by simp only [ho, stepOp, h1, h2, binA, eqA, h3, h]; cases z <;> rfl)
      · cases hk
        exact .prim (vf (.bool z), [], 0) (by simp only [ho, stepOp, h1, h2, binA, eqA, h3, h]; cases z <;> rfl)
      · cases hk
    · cases hk
  · cases hk
theorem b_lssT (k : IntKind) {x y : Int} (h : x < y) (t : TypeId) : binA P .lss t (vf (.int k x)) (vf (.int k y)) = some (.bool true) := by rw [b_lss, decide_eq_true h]
theorem b_lssF (k : IntKind) {x y : Int} (h : y ≤ x) (t : TypeId) : binA P .lss t (vf (.int k x)) (vf (.int k y)) = some (.bool false) := by rw [b_lss, decide_eq_false (by omega)]
theorem b_gtrT (k : IntKind) {x y : Int} (h : y < x) (t : TypeId) : binA P .gtr t (vf (.int k x)) (vf (.int k y)) = some (.bool true) := by rw [b_gtr, decide_eq_true h]
theorem b_gtrF (k : IntKind) {x y : Int} (h : x ≤ y) (t : TypeId) : binA P .gtr t (vf (.int k x)) (vf (.int k y)) = some (.bool false) := by rw [b_gtr, decide_eq_false (by omega)]
theorem b_leqT (k : IntKind) {x y : Int} (h : x ≤ y) (t : TypeId) : binA P .leq t (vf (.int k x)) (vf (.int k y)) = some (.bool true) := by rw [b_leq, decide_eq_true h]
theorem b_leqF (k : IntKind) {x y : Int} (h : y < x) (t : TypeId) : binA P .leq t (vf (.int k x)) (vf (.int k y)) = some (.bool false) := by rw [b_leq, decide_eq_false (by omega)]
theorem b_geqT (k : IntKind) {x y : Int} (h : y ≤ x) (t : TypeId) : binA P .geq t (vf (.int k x)) (vf (.int k y)) = some (.bool true) := by rw [b_geq, decide_eq_true h]
theorem b_geqF (k : IntKind) {x y : Int} (h : x < y) (t : TypeId) : binA P .geq t (vf (.int k x)) (vf (.int k y)) = some (.bool false) := by rw [b_geq, decide_eq_false (by omega)]
theorem b_eqlT (k : IntKind) {x y : Int} (h : x = y) (t : TypeId) : binA P .eql t (vf (.int k x)) (vf (.int k y)) = some (.bool true) := by rw [b_eql, decide_eq_true h]
theorem b_eqlF (k : IntKind) {x y : Int} (h : x ≠ y) (t : TypeId) : binA P .eql t (vf (.int k x)) (vf (.int k y)) = some (.bool false) := by rw [b_eql, decide_eq_false h]
theorem b_neqT (k : IntKind) {x y : Int} (h : x ≠ y) (t : TypeId) : binA P .neq t (vf (.int k x)) (vf (.int k y)) = some (.bool true) := by rw [b_neq, decide_eq_true h]
theorem b_neqF (k : IntKind) {x y : Int} (h : x = y) (t : TypeId) : binA P .neq t (vf (.int k x)) (vf (.int k y)) = some (.bool false) := by rw [b_neq, decide_eq_false (by omega)]
theorem b_quoN (a b : Nat) (h0 : b ≠ 0) (ha : a < 9223372036854775808) (t : TypeId) : binA P .quo t (vi a) (vi b) = some (.int .i64 ((a / b : Nat) : Int)) :=
  b_quo .i64 a b _ (by omega) (wrap64 rfl (Nat.lt_of_le_of_lt (Nat.div_le_self a b) ha)) t
theorem b_remN (a b : Nat) (h0 : b ≠ 0) (t : TypeId) : binA P .rem t (vi a) (vi b) = some (.int .i64 ((a % b : Nat) : Int)) := b_rem .i64 a b (by omega) t
theorem b_addN (a b : Nat) (h : a + b < 9223372036854775808) (t : TypeId) : binA P .add t (vi a) (vi b) = some (.int .i64 ((a + b : Nat) : Int)) := b_add .i64 a b _ (wrap64 (by omega) h) t
theorem b_subN (a b : Nat) (hb : b ≤ a) (h : a < 9223372036854775808) (t : TypeId) : binA P .sub t (vi a) (vi b) = some (.int .i64 ((a - b : Nat) : Int)) := b_sub .i64 a b _ (wrap64 (by omega) (by omega)) t
end
theorem jNewM {X H : Heap} {n : Nat} {M : List (Nat × O)} (s : Sep X H n M) (ob : O) : ∃ H', Sep X H' (n + 1) ((n, ob) :: M) ∧ ∀ (o : Oper) (r : Operand → Option V) (v : V), freshK Tryz.prog o r n = some (v, ob) → OpJ Tryz.prog o r H n v H' (n + 1) :=
  ⟨_, s.newM ob, fun _ _ _ hk => jFresh hk⟩
theorem jNewF {X H : Heap} {n : Nat} {M : List (Nat × O)} (s : Sep X H n M) (ob : O) : ∃ X' H', Sep X' H' (n + 1) M ∧ Mono X X' ∧ X' n = some ob ∧ ∀ (o : Oper) (r : Operand → Option V) (v : V), freshK Tryz.prog o r n = some (v, ob) → OpJ Tryz.prog o r H n v H' (n + 1) :=
  ⟨_, _, s.newF ob, s.newX ob, upd_same _ _ _, fun _ _ _ hk => jFresh hk⟩
theorem jMakeM {X H : Heap} {n a : Nat} {M : List (Nat × O)} (s : Sep X H n M) (ti : TI) (ha : a * ti.bytes ≤ 140737488355328) {cs : List F} (hcs : repeatL ti.zero a = cs) : ∃ H', Sep X H' (n + 1) ((n, .cells cs true) :: M) ∧ ∀ (o : Oper) (r : Operand → Option V), mkK Tryz.prog o r = some (ti, a) → OpJ Tryz.prog o r H n (vf (.sl n 0 ti.size a none)) H' (n + 1) :=
  ⟨_, s.newM _, fun _ _ hk => hcs ▸ jMake ha hk⟩
theorem jSet {X H : Heap} {n : Nat} {M : List (Nat × O)} (s : Sep X H n M) (j : Nat) {id off : Nat} {cs new cs' : List F} {ex : Bool} (hj : M[j]? = some (id, .cells cs ex)) (hle : off + new.length ≤ cs.length) (hs : splice cs off new = cs') :
    ∃ H', Sep X H' n (M.set j (id, .cells cs' ex)) ∧ ∀ (o : Oper) (r : Operand → Option V), stK Tryz.prog o r = some (id, off, new) → OpJ Tryz.prog o r H n undefV H' n :=
  ⟨_, s.set j hj _, fun _ _ hk => jStoreE (s.at j hj) hle hs hk⟩
end Go.Proofs.YtkimkgbppegkhaaGreat.Cm
