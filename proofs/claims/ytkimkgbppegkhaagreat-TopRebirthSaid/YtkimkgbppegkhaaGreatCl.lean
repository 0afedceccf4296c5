/- The clean machine: calls of what is known beforehand, reckoned once: rows, numbers, plain values. -/
import Derived.Test.YtkimkgbppegkhaaGreatFnF
import Derived.Test.YtkimkgbppegkhaaGreatGd
namespace Go.Proofs.YtkimkgbppegkhaaGreat.Cm
open Go Go.RowKit Go.Proofs.YtkimkgbppegkhaaGreat.Gf
set_option maxRecDepth 1000000
noncomputable def evF (f : Nat) (args : List V) : Option (V × T O × Nat) := evCall Tryz.prog orcR 100000 f args .leaf 0
/-- no names -/
def noF : F → Bool
  | .ptr .. => false
  | .sl .. => false
  | .map .. => false
  | _ => true
def noU : U → Bool
  | .f x => noF x
  | .agg cs => cs.all noF
  | .fn _ cs => cs.all noF
def noV : V → Bool
  | .u x => noU x
  | .tup l => l.all noU
theorem noF_ren {x : F} (h : noF x = true) (s : Nat → Nat) : renF s x = x := by cases x <;> first | rfl | cases h
theorem noFs_ren {l : List F} (h : l.all noF = true) (s : Nat → Nat) : l.map (renF s) = l := by
  induction l with
  | nil => rfl
  | cons x l ih =>
    rw [List.all_cons, Bool.and_eq_true] at h
    rw [List.map_cons, noF_ren h.1, ih h.2]
theorem noU_ren {x : U} (h : noU x = true) (s : Nat → Nat) : renU s x = x := by
  cases x with
  | f x => simp only [renU, noF_ren h]
  | agg cs => simp only [renU, noFs_ren h]
  | fn g cs => simp only [renU, noFs_ren h]
theorem noV_ren {x : V} (h : noV x = true) (s : Nat → Nat) : renV s x = x := by
  cases x with
  | u x => simp only [renV, noU_ren h]
  | tup l =>
    simp only [renV]
    congr 1
    have h : l.all noU = true := h
    induction l with
    | nil => rfl
    | cons x l ih =>
      rw [List.all_cons, Bool.and_eq_true] at h
      rw [List.map_cons, noU_ren h.1, ih h.2 h.2]
theorem noVs_ren {l : List V} (h : l.all noV = true) (s : Nat → Nat) : l.map (renV s) = l := by
  induction l with
  | nil => rfl
  | cons x l ih =>
    rw [List.all_cons, Bool.and_eq_true] at h
    rw [List.map_cons, noV_ren h.1, ih h.2]
/-- what is made lies in the heap, under its new names -/
theorem closed_mem {f : Nat} {args : List V} {v : V} {H' : T O} {n' : Nat} (h : evF f args = some (v, H', n')) (ha : args.all noV = true) {X : Heap} {m : Nat} (ht : Top X m) :
    ∃ X', CallsC Tryz.prog f args X m (renV (m + ·) v) X' (m + n') ∧ Mono X X' ∧ Top X' (m + n') ∧ (∀ k o, H'.get k = some o → X' (m + k) = some (renO (m + ·) o)) ∧ ∀ k, X' k ≠ none → X k ≠ none ∨ m ≤ k := by
  have h1 := evCall_ok progOk orcR_ok 100000 f args .leaf 0 v H' n' (fun _ _ => rfl) h
  have h2 := h1.closed X m (noVs_ren ha _) (fun k hk _ => ht k hk)
  refine ⟨_, h2, fun id o ho => ?_, h2.1.top ht, fun k o ho => ?_, fun k hk => ?_⟩
  · have hid := ht.lt ho
    have : renH (m + ·) (· - m) H'.get id = none := by
      unfold renH
      rw [if_neg]
      show ¬ m + (id - m) = id
      omega
    rw [Heap.or_right this]; exact ho
  · refine Heap.or_left ?_
    unfold renH
    have e : (fun x => x - m) (m + k) = k := by show m + k - m = k; omega
    rw [if_pos (by rw [e]), e, ho]
    rfl
  · rcases h2.1.2 k hk with h3 | h3
    · exact .inl h3
    · exact .inr h3.1
/-- a value without names -/
noncomputable def chkV (v : V) (o : Option (V × T O × Nat)) : Bool := match o with
  | some (u, _, _) => beqV u v
  | none => false
theorem val_closed {f : Nat} {args : List V} {v : V} (h : chkV v (evF f args) = true) (hv : noV v = true) (ha : args.all noV = true) {X : Heap} {m : Nat} (ht : Top X m) : PureC f args X m fun u _ => u = v := by
  unfold chkV at h
  split at h
  · rename_i u H' n' he
    have := beqV_eq h
    subst this
    obtain ⟨X', h1, h2, h3, _⟩ := closed_mem he ha ht
    rw [noV_ren hv] at h1
    exact ⟨_, _, _, h1, h2, h3, rfl⟩
  · cases h
theorem bs_ren (s : Nat → Nat) (l : List Nat) : (bs l).map (renF s) = bs l := by
  unfold bs
  rw [List.map_map]
  rfl
theorem rowA_ren {G X : Heap} {s : Nat → Nat} {sz : Nat} {f : F} {cs : List F} (hm : ∀ id o, G id = some o → X (s id) = some (renO s o)) (h : rowA G sz f = some cs) : ∃ cs', rowA X sz (renF s f) = some cs' ∧ (cs' = cs.map (renF s) ∨ cs' = cs) := by
  cases f with
  | sl0 => exact ⟨cs, h, .inr rfl⟩
  | sl id off sz' len cap =>
    simp only [rowA] at h
    split at h
    · rename_i hsz
      subst hsz
      split at h
      · rename_i all ex h2
        split at h
        · rename_i hle
          cases h
          refine ⟨_, ?_, .inl rfl⟩
          have := hm _ _ h2
          simp only [renO] at this
          simp only [renF, rowA, if_true, this]
          rw [if_pos (by simpa using hle)]
          rw [List.map_take, List.map_drop]
        · cases h
      · rename_i rcs elem fz h2
        split at h
        · rename_i hle
          refine ⟨_, ?_, .inr rfl⟩
          have := hm _ _ h2
          simp only [renO] at this
          simp only [renF, rowA, if_true, this]
          rw [if_pos hle]
          exact h
        · cases h
      · cases h
    · cases h
  | _ => simp [rowA] at h
theorem RowV.ren {G X : Heap} {s : Nat → Nat} {f : F} {l : List Nat} (hm : ∀ id o, G id = some o → X (s id) = some (renO s o)) (h : RowV G f l) : RowV X (renF s f) l := by
  obtain ⟨cs', h1, h2⟩ := rowA_ren hm h.1
  refine ⟨?_, h.2⟩
  rw [h1]
  rcases h2 with rfl | rfl
  · rw [bs_ren]
  · rfl
theorem All2.map_left {α α' β : Type} {R : α → β → Prop} {S : α' → β → Prop} {g : α → α'} (hg : ∀ a b, R a b → S (g a) b) : ∀ {l : List α} {k : List β}, All2 R l k → All2 S (l.map g) k
  | [], [], _ => trivial
  | a :: l, b :: k, H => ⟨hg _ _ H.1, All2.map_left hg H.2⟩
  | [], _ :: _, H => H.elim
  | _ :: _, [], H => H.elim
/-- a list of rows, in a block of its own -/
noncomputable def accRows (o : Option (V × T O × Nat)) : Option (List (List Nat)) := match o with
  | some (.u (.f (.sl k 0 1 len none)), H', _) => match Nat.ble (Nat.succ k) lim with
    | true => match H'.get k with
      | some (.cells cs false) => match Nat.beq cs.length len with
        | true => asRows (H'.set k none) cs
        | false => none
      | _ => none
    | false => none
  | _ => none
theorem acc_closed {f : Nat} {args : List V} {rs : List (List Nat)} (h : accRows (evF f args) = some rs) (ha : args.all noV = true) {X : Heap} {m : Nat} (ht : Top X m) :
    MakeC f args X m fun v X' M' => ∃ a fs, v = vf a ∧ M' = accM a fs ∧ AccF 1 a fs ∧ All2 (RowV X') fs rs := by
  unfold accRows at h
  split at h
  · rename_i k len H' n' he
    split at h
    · rename_i hk
      split at h
      · rename_i cs hc
        split at h
        · rename_i hl
          have hk : k < lim := Nat.le_of_ble_eq_true hk
          have hl := Nat.eq_of_beq_eq_true hl
          have hr := asRows_spec h
          obtain ⟨X', h1, h2, h3, h4, h5⟩ := closed_mem he ha ht
          have hmk : X (m + k) = none := ht _ (by omega)
          have hx := h4 k _ hc
          simp only [renO] at hx
          obtain ⟨Y, hY⟩ : ∃ Y : Heap, Y = upd X' (m + k) none := ⟨_, rfl⟩
          have hYX : ∀ id o, Y id = some o → X' id = some o := fun id o ho => by
            rw [hY] at ho
            by_cases e : id = m + k
            · subst e; rw [upd_same] at ho; cases ho
            · rw [upd_ne _ _ e] at ho; exact ho
          refine ⟨_, Y, X', _, [(m + k, .cells (cs.map (renF (m + ·))) false)], h1, fun id o ho => ?_, ⟨hYX, h3, fun p hp => ?_, by simp⟩, .sl (m + k) 0 1 len none, cs.map (renF (m + ·)), rfl, rfl, .inr ⟨m + k, len, rfl, by rw [List.length_map]; omega⟩, hr.map_left fun a b hab => hab.ren fun id o ho => ?_⟩
          · rw [hY, upd_ne]
            · exact h2 _ _ ho
            · rintro rfl; rw [hmk] at ho; cases ho
          · simp at hp
            subst hp
            exact ⟨hx, by rw [hY]; exact upd_same _ _ _⟩
          · rw [T.get_set _ _ _ hk] at ho
            split at ho
            · cases ho
            · rename_i hne
              rw [hY, upd_ne _ _ (by omega)]
              exact h4 _ _ ho
        · cases h
      · cases h
    · cases h
  · cases h
/-- whole numbers, as they lie in cells -/
def is (l : List Nat) : List F := l.map fun (x : Nat) => F.int .i64 (x : Int)
theorem is_at {l : List Nat} {i x : Nat} (h : l[i]? = some x) : (is l)[i]? = some (.int .i64 (x : Int)) := by simp [is, h]
theorem is_len (l : List Nat) : (is l).length = l.length := by simp [is]
theorem is_ren (s : Nat → Nat) (l : List Nat) : (is l).map (renF s) = is l := by
  unfold is
  rw [List.map_map]
  rfl
def IntsV (H : Heap) (f : F) (l : List Nat) : Prop := rowA H 1 f = some (is l)
theorem IntsV.mono {H H' : Heap} (hm : Mono H H') {f : F} {l : List Nat} (h : IntsV H f l) : IntsV H' f l := rowA_mono hm h
theorem IntsV.lenA {H : Heap} {f : F} {l : List Nat} (h : IntsV H f l) : Cm.lenA f = some l.length := by
  have := rowA_len1 h
  rw [is_len] at this
  exact this
theorem IntsV.sl {H : Heap} {f : F} {l : List Nat} (h : IntsV H f l) (h0 : 0 < l.length) : ∃ id off cap, f = .sl id off 1 l.length cap ∧ ∀ (i x : Nat), l[i]? = some x → atA H id (off + i) (.int .i64 (x : Int)) := by
  obtain ⟨id, off, cap, h1, h2⟩ := rowA_sl h (by rw [is_len]; exact h0)
  rw [is_len] at h1
  exact ⟨id, off, cap, h1, fun i x hx => h2 i _ (is_at hx)⟩
noncomputable def asIs : List F → Option (List Nat)
  | [] => some []
  | x :: r => onO (asK .i64 9223372036854775807 (vf x)) fun a => onO (asIs r) fun l => some (a :: l)
theorem asIs_spec : ∀ {cs : List F} {l : List Nat}, asIs cs = some l → cs = is l
  | [], l, h => by cases h; rfl
  | x :: r, l, h => by
    obtain ⟨a, h1, h2⟩ := onO_some h
    obtain ⟨l', h3, h4⟩ := onO_some h2
    cases h4
    have e1 := asIs_spec h3
    obtain ⟨g1, g2⟩ := asK_spec h1
    cases g1
    rw [e1]; rfl
noncomputable def intsO (o : Option (V × T O × Nat)) : Option (List Nat) := match o with
  | some (.u (.f x), H', _) => onO (rowA H'.get 1 x) asIs
  | _ => none
theorem ints_closed {f : Nat} {args : List V} {l : List Nat} (h : intsO (evF f args) = some l) (ha : args.all noV = true) {X : Heap} {m : Nat} (ht : Top X m) : PureC f args X m fun v X' => ∃ g, v = vf g ∧ IntsV X' g l := by
  unfold intsO at h
  split at h
  · rename_i x H' n' he
    obtain ⟨cs, h1, h2⟩ := onO_some h
    have := asIs_spec h2
    subst this
    obtain ⟨X', g1, g2, g3, g4, _⟩ := closed_mem he ha ht
    obtain ⟨cs', k1, k2⟩ := rowA_ren g4 h1
    refine ⟨_, _, _, g1, g2, g3, _, rfl, ?_⟩
    unfold IntsV
    rw [k1]
    rcases k2 with rfl | rfl
    · rw [is_ren]
    · rfl
  · cases h
end Go.Proofs.YtkimkgbppegkhaaGreat.Cm
