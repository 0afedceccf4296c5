/- The clean machine: the numbers of a block of one to eight source symbols, its rows, its symbols' parts, reckoned. -/
import Derived.Test.YtkimkgbppegkhaaGreatCl
namespace Go.Proofs.YtkimkgbppegkhaaGreat.Cm
open Go Go.RowKit Go.Proofs.YtkimkgbppegkhaaGreat.Gf
set_option maxRecDepth 1000000
def sK (k : Nat) : Nat := 2 + k / 8
def wK (k : Nat) : Nat := k + sK k
def lK (k : Nat) : Nat := wK k + 2
theorem lK_le {k : Nat} (h : k ≤ 8) : lK k ≤ 13 ∧ k < lK k ∧ sK k + 2 ≤ lK k ∧ 2 ≤ sK k ∧ sK k ≤ 3 := by unfold lK wK sK; omega
abbrev pF (k : Nat) : List F := [.int .i64 ((k : Nat) : Int), .int .i64 ((sK k : Nat) : Int), .int .i64 2]
abbrev pV (k : Nat) : V := .u (.agg (pF k))
noncomputable def eight (p : Nat → Bool) : Bool := p 1 && p 2 && p 3 && p 4 && p 5 && p 6 && p 7 && p 8
theorem eight_of {p : Nat → Bool} (h : eight p = true) {k : Nat} (h1 : 1 ≤ k) (h8 : k ≤ 8) : p k = true := by
  unfold eight at h
  simp only [Bool.and_eq_true] at h
  obtain ⟨⟨⟨⟨⟨⟨⟨a1, a2⟩, a3⟩, a4⟩, a5⟩, a6⟩, a7⟩, a8⟩ := h
  have : k = 1 ∨ k = 2 ∨ k = 3 ∨ k = 4 ∨ k = 5 ∨ k = 6 ∨ k = 7 ∨ k = 8 := by omega
  rcases this with rfl | rfl | rfl | rfl | rfl | rfl | rfl | rfl <;> assumption
theorem of_eight : eight (fun k => chkV (.tup [.agg (pF k), .f (.int .i64 0)]) (evF 42 [vi k])) = true := by kernel_rfl
theorem l_eight : eight (fun k => chkV (vi (lK k)) (evF 68 [pV k])) = true := by kernel_rfl
theorem w_eight : eight (fun k => chkV (vi (wK k)) (evF 95 [pV k])) = true := by kernel_rfl
section
variable {X : Heap} {n k : Nat}
theorem of_pure (h1 : 1 ≤ k) (h8 : k ≤ 8) (ht : Top X n) : PureC 42 [vi k] X n fun v _ => v = .tup [.agg (pF k), .f (.int .i64 0)] := val_closed (eight_of of_eight h1 h8) rfl rfl ht
theorem l_pure (h1 : 1 ≤ k) (h8 : k ≤ 8) (ht : Top X n) : PureC 68 [pV k] X n fun v _ => v = vi (lK k) := val_closed (eight_of l_eight h1 h8) rfl rfl ht
theorem w_pure (h1 : 1 ≤ k) (h8 : k ≤ 8) (ht : Top X n) : PureC 95 [pV k] X n fun v _ => v = vi (wK k) := val_closed (eight_of w_eight h1 h8) rfl rfl ht
end
noncomputable def b8B (r : List Nat) : Bool := r.all fun x => Nat.ble x 255
theorem b8B_spec {r : List Nat} (h : b8B r = true) : B8 r := fun x hx => by
  unfold b8B at h
  rw [List.all_eq_true] at h
  have := Nat.le_of_ble_eq_true (h x hx)
  omega
noncomputable def rowsB (c N : Nat) (o : Option (List (List Nat))) : Bool := match o with
  | some rs => Nat.beq rs.length c && rs.all fun r => Nat.beq r.length N && b8B r
  | none => false
theorem rowsB_spec {c N : Nat} {o : Option (List (List Nat))} (h : rowsB c N o = true) : ∃ rs, o = some rs ∧ Mx c N rs := by
  unfold rowsB at h
  split at h
  · rename_i rs
    rw [Bool.and_eq_true, List.all_eq_true] at h
    refine ⟨rs, rfl, Nat.eq_of_beq_eq_true h.1, fun r hr => ?_⟩
    have := h.2 r hr
    rw [Bool.and_eq_true] at this
    exact ⟨Nat.eq_of_beq_eq_true this.1, b8B_spec this.2⟩
  · cases h
noncomputable def lowR (k : Nat) : List (List Nat) := (accRows (evF 96 [pV k])).getD []
noncomputable def highR (k : Nat) : List (List Nat) := (accRows (evF 97 [pV k])).getD []
theorem low_eight : eight (fun k => rowsB (sK k) (lK k) (accRows (evF 96 [pV k]))) = true := by kernel_rfl
theorem high_eight : eight (fun k => rowsB 2 (lK k) (accRows (evF 97 [pV k]))) = true := by kernel_rfl
section
variable {X : Heap} {n k : Nat}
theorem low_mx (h1 : 1 ≤ k) (h8 : k ≤ 8) : Mx (sK k) (lK k) (lowR k) := by
  obtain ⟨rs, h2, h3⟩ := rowsB_spec (eight_of low_eight h1 h8)
  unfold lowR
  rw [h2]
  exact h3
theorem high_mx (h1 : 1 ≤ k) (h8 : k ≤ 8) : Mx 2 (lK k) (highR k) := by
  obtain ⟨rs, h2, h3⟩ := rowsB_spec (eight_of high_eight h1 h8)
  unfold highR
  rw [h2]
  exact h3
theorem low_make (h1 : 1 ≤ k) (h8 : k ≤ 8) (ht : Top X n) : MakeC 96 [pV k] X n fun v X' M' => ∃ a fs, v = vf a ∧ M' = accM a fs ∧ AccF 1 a fs ∧ All2 (RowV X') fs (lowR k) := by
  obtain ⟨rs, h2, h3⟩ := rowsB_spec (eight_of low_eight h1 h8)
  have : lowR k = rs := by unfold lowR; rw [h2]; rfl
  rw [this]
  exact acc_closed h2 rfl ht
theorem high_make (h1 : 1 ≤ k) (h8 : k ≤ 8) (ht : Top X n) : MakeC 97 [pV k] X n fun v X' M' => ∃ a fs, v = vf a ∧ M' = accM a fs ∧ AccF 1 a fs ∧ All2 (RowV X') fs (highR k) := by
  obtain ⟨rs, h2, h3⟩ := rowsB_spec (eight_of high_eight h1 h8)
  have : highR k = rs := by unfold highR; rw [h2]; rfl
  rw [this]
  exact acc_closed h2 rfl ht
end
/-- a symbol's parts: unlike, each one of the block's, one at least -/
noncomputable def partsN (k esi : Nat) : List Nat := (intsO (evF 71 [pV k, vf (.int .i64 0), vi esi])).getD []
noncomputable def nodupB : List Nat → Bool
  | [] => true
  | x :: l => l.all (fun y => not (Nat.beq x y)) && nodupB l
theorem nodupB_spec : ∀ {l : List Nat}, nodupB l = true → l.Nodup
  | [], _ => List.nodup_nil
  | x :: l, h => by
    simp only [nodupB, Bool.and_eq_true, List.all_eq_true] at h
    refine List.nodup_cons.2 ⟨fun hx => ?_, nodupB_spec h.2⟩
    have := h.1 x hx
    simp at this
noncomputable def partsB (k esi : Nat) : Bool := match intsO (evF 71 [pV k, vf (.int .i64 0), vi esi]) with
  | some l => Nat.ble 1 l.length && Nat.ble l.length 100 && l.all (fun x => Nat.ble (x + 1) (lK k)) && nodupB l
  | none => false
structure PartsOk (k esi : Nat) : Prop where
  ev : intsO (evF 71 [pV k, vf (.int .i64 0), vi esi]) = some (partsN k esi)
  one : 1 ≤ (partsN k esi).length
  few : (partsN k esi).length ≤ 100
  lt : ∀ x ∈ partsN k esi, x < lK k
  nod : (partsN k esi).Nodup
theorem partsB_spec {k esi : Nat} (h : partsB k esi = true) : PartsOk k esi := by
  unfold partsB at h
  split at h
  · rename_i l hl
    have e : partsN k esi = l := by unfold partsN; rw [hl]; rfl
    simp only [Bool.and_eq_true, List.all_eq_true] at h
    obtain ⟨⟨⟨h1, h2⟩, h3⟩, h4⟩ := h
    refine ⟨by rw [e]; exact hl, by rw [e]; exact Nat.le_of_ble_eq_true h1, by rw [e]; exact Nat.le_of_ble_eq_true h2, fun x hx => ?_, by rw [e]; exact nodupB_spec h4⟩
    rw [e] at hx
    exact Nat.le_of_ble_eq_true (h3 x hx)
  · cases h
theorem parts_pure {X : Heap} {n k esi : Nat} (h : PartsOk k esi) (ht : Top X n) : PureC 71 [pV k, vf (.int .i64 0), vi esi] X n fun v X' => ∃ g, v = vf g ∧ IntsV X' g (partsN k esi) := ints_closed h.ev rfl ht
end Go.Proofs.YtkimkgbppegkhaaGreat.Cm
