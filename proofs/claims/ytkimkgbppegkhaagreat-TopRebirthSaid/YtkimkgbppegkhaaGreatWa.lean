/- The clean machine: heaps of known objects, told apart and told within one another; and the numbers of a block of two. -/
import Derived.Test.YtkimkgbppegkhaaGreatFnF
namespace Go.Proofs.YtkimkgbppegkhaaGreat.Cm
open Go Go.RowKit Go.Proofs.YtkimkgbppegkhaaGreat.Gf
set_option maxRecDepth 1000000
noncomputable def beqP (a b : U × U) : Bool := beqU a.1 b.1 && beqU a.2 b.2
noncomputable def beqOb : O → O → Bool
  | .cells a x, .cells b y => x == y && beqL beqF a b
  | .mp a, .mp b => beqL beqP a b
  | .it a, .it b => a == b
  | _, _ => false
theorem beqOb_eq {a b : O} (h : beqOb a b = true) : a = b := by
  cases a <;> cases b <;> simp only [beqOb, Bool.and_eq_true, beq_iff_eq] at h <;> first
    | (cases h; done)
    | (rw [h.1, beqL_eq (fun _ _ => beqF_eq) h.2])
    | (rw [beqL_eq (fun a b h => ?_) h]; obtain ⟨a, a'⟩ := a; obtain ⟨b, b'⟩ := b; simp only [beqP, Bool.and_eq_true] at h; rw [beqU_eq h.1, beqU_eq h.2])
    | (rw [h])
noncomputable def beqOO : Option O → Option O → Bool
  | none, none => true
  | some a, some b => beqOb a b
  | _, _ => false
theorem beqOO_eq {a b : Option O} (h : beqOO a b = true) : a = b := by
  cases a <;> cases b <;> simp only [beqOO] at h <;> first
    | rfl
    | (cases h; done)
    | (rw [beqOb_eq h])
noncomputable def beqT : T O → T O → Bool
  | .leaf, .leaf => true
  | .node l v r, .node l' v' r' => beqOO v v' && beqT l l' && beqT r r'
  | _, _ => false
theorem beqT_eq : ∀ {a b : T O}, beqT a b = true → a = b
  | .leaf, .leaf, _ => rfl
  | .node l v r, .node l' v' r', h => by
    simp only [beqT, Bool.and_eq_true] at h
    rw [beqOO_eq h.1.1, beqT_eq h.1.2, beqT_eq h.2]
  | .leaf, .node .., h => by cases h
  | .node .., .leaf, h => by cases h
noncomputable def subOO : Option O → Option O → Bool
  | none, _ => true
  | some a, some b => beqOb a b
  | _, _ => false
/-- what is in the one is in the other -/
noncomputable def subT : T O → T O → Bool
  | .leaf, _ => true
  | .node l v r, .node l' v' r' => subOO v v' && subT l l' && subT r r'
  | _, _ => false
theorem subT_get : ∀ {a b : T O}, subT a b = true → ∀ k o, a.get k = some o → b.get k = some o
  | .leaf, _, _, k, o, h => by rw [T.get_leaf] at h; cases h
  | .node l v r, .node l' v' r', h, k, o, hk => by
    simp only [subT, Bool.and_eq_true] at h
    rw [T.get_node] at hk ⊢
    by_cases h0 : k = 0
    · rw [if_pos h0] at hk ⊢
      rw [hk] at h
      cases v' with
      | none => exact absurd h.1.1 (by simp [subOO])
      | some b => rw [beqOb_eq h.1.1]
    · rw [if_neg h0] at hk ⊢
      by_cases h1 : k % 2 = 1
      · rw [if_pos h1] at hk ⊢; exact subT_get h.1.2 _ _ hk
      · rw [if_neg h1] at hk ⊢; exact subT_get h.2 _ _ hk
  | .node .., .leaf, h, _, _, _ => by cases h
noncomputable def isJs (j : Nat) (o : Option (V × T O × Nat)) : Bool := match o with
  | some (.tup [.f (.int .i64 a), .f (.int .i64 b)], _, n) => eqI a j && eqI b 0 && Nat.ble n 1000
  | _ => false
theorem find_s {k j : Nat} (h : isJs j (ev45 k) = true) (H : Heap) (m : Nat) (hH : ∀ i, m ≤ i → i < m + 1000 → H i = none) : CallsC Tryz.prog 45 [vi k] H m (.tup [.f (.int .i64 j), .f (.int .i64 0)]) H (m + 1000) := by
  unfold isJs at h
  split at h
  · rename_i a b H' n he
    rw [Bool.and_eq_true, Bool.and_eq_true, eqI_eq, eqI_eq, beq_iff_eq, beq_iff_eq] at h
    obtain ⟨⟨rfl, rfl⟩, h⟩ := h
    have hn := Nat.le_of_ble_eq_true h
    have h1 := evCall_ok progOk orcR_ok 100000 45 [vi k] .leaf 0 _ H' n (fun _ _ => rfl) he
    have h2 := (h1.less (G := fun _ => none) (fun _ _ h => by cases h) hn).closed H m rfl hH
    have e : (renH (m + ·) (· - m) (fun _ => none)).or H = H := by
      funext i
      have : renH (m + ·) (· - m) (fun _ => none) i = none := by unfold renH; split <;> rfl
      rw [Heap.or_right this]
    rw [e] at h2
    exact h2
  · cases h
theorem find2s (H : Heap) (m : Nat) (hH : ∀ i, m ≤ i → i < m + 1000 → H i = none) : CallsC Tryz.prog 45 [vi 2] H m (.tup [.f (.int .i64 (0 : Nat)), .f (.int .i64 0)]) H (m + 1000) := find_s (by kernel_rfl) H m hH
noncomputable def orcW0 : CallF := fun f args H n =>
  pickB (Nat.beq f 45) (arg1 args fun x => onO (asK .i64 2 x) fun a => pickB (Nat.beq a 2) (some (.tup [.f (.int .i64 (.ofNat 0)), .f (.int .i64 (.ofNat 0))], H, Nat.add n 1000)) none) <|
  orcR f args H n
theorem pickT_some {α : Type} {b : Bool} {y : Option α} {r : α} (h : pickB b y none = some r) : b = true ∧ y = some r := by
  cases b with
  | true => exact ⟨rfl, h⟩
  | false => cases h
theorem orcW0_ok : CallF.Ok Tryz.prog orcW0 := by
  intro f args H n v H' n' ht h
  unfold orcW0 at h
  rcases pickB_some h with ⟨rfl, h⟩ | h
  · obtain ⟨x, rfl, h⟩ := arg1_some h
    obtain ⟨a, h1, h⟩ := onO_some h
    obtain ⟨h2, h⟩ := pickT_some h
    cases h
    obtain ⟨rfl, g1⟩ := asK_spec h1
    have := Nat.eq_of_beq_eq_true h2
    subst this
    exact find2s _ _ fun i hi _ => ht i hi
  · exact orcR_ok _ _ _ _ _ _ _ ht h
def zi (n : Nat) : F := .int .i64 (.ofNat n)
noncomputable def zb (l : List Nat) : List F := @List.rec Nat (fun _ => List F) [] (fun x _ r => .int .u8 (.ofNat x) :: r) l
noncomputable def zr (n : Nat) (x : F) : List F := @Nat.rec (fun _ => List F) [] (fun _ r => x :: r) n
noncomputable def za (l k : List F) : List F := @List.rec F (fun _ => List F) k (fun x _ r => x :: r) l
/-- is the answer this one, are these objects in its heap, and are there no more names? -/
noncomputable def resOk (v : V) (G : T O) (m : Nat) (o : Option (V × T O × Nat)) : Bool := match o with
  | some (u, H', n') => beqV u v && subT G H' && Nat.ble n' m
  | none => false
theorem resOk_ok {orc : CallF} (ho : CallF.Ok Tryz.prog orc) {f : Nat} {args : List V} {H : T O} {n : Nat} {v : V} {G : T O} {m : Nat} (h : resOk v G m (evCall Tryz.prog orc 100000 f args H n) = true) (ht : Top H.get n) : CallsC Tryz.prog f args H.get n v G.get m := by
  unfold resOk at h
  split at h
  · rename_i u H' n' he
    rw [Bool.and_eq_true, Bool.and_eq_true] at h
    have := beqV_eq h.1.1
    subst this
    exact (evCall_ok progOk ho 100000 f args H n _ H' n' ht he).less (subT_get h.1.2) (Nat.le_of_ble_eq_true h.2)
  · cases h
/-- one call that is known, from one heap -/
noncomputable def orc1 (orc : CallF) (f0 : Nat) (a0 : List V) (H0 : T O) (n0 : Nat) (v : V) (G : T O) (m : Nat) : CallF := fun f args H n =>
  @Option.rec (V × T O × Nat) (fun _ => Option (V × T O × Nat)) (orc f args H n) (fun r => some r) (pickB (Nat.beq f f0) (pickB (Nat.beq n n0) (pickB (beqL beqV args a0) (pickB (beqT H H0) (some (v, G, m)) none) none) none) none)
theorem orc1_ok {orc : CallF} (ho : CallF.Ok Tryz.prog orc) {f0 : Nat} {a0 : List V} {H0 : T O} {n0 : Nat} {v : V} {G : T O} {m : Nat} (hk : Top H0.get n0 → CallsC Tryz.prog f0 a0 H0.get n0 v G.get m) : CallF.Ok Tryz.prog (orc1 orc f0 a0 H0 n0 v G m) := by
  intro f args H n v' H' n' ht h
  unfold orc1 at h
  cases hp : (pickB (Nat.beq f f0) (pickB (Nat.beq n n0) (pickB (beqL beqV args a0) (pickB (beqT H H0) (some (v, G, m)) none) none) none) none) with
  | none => rw [hp] at h; exact ho _ _ _ _ _ _ _ ht h
  | some r =>
    rw [hp] at h
    cases h
    obtain ⟨h1, hp⟩ := pickT_some hp
    obtain ⟨h2, hp⟩ := pickT_some hp
    obtain ⟨h3, hp⟩ := pickT_some hp
    obtain ⟨h4, hp⟩ := pickT_some hp
    cases hp
    have := Nat.eq_of_beq_eq_true h1
    have := Nat.eq_of_beq_eq_true h2
    have := beqL_eq (fun _ _ => beqV_eq) h3
    have := beqT_eq h4
    subst_vars
    exact hk ht
end Go.Proofs.YtkimkgbppegkhaaGreat.Cm
