/- A look as it lies in the world, and what its methods make of it, in plain lists. No walk here. -/
import Derived.Test.YtbkcopejclcfdaaLkDel
namespace Go.Proofs.Ytbkcopejclcfdaa
open Go.RowKit Go.Proofs.Ytbkcopejclcfdaa.Sum
set_option linter.unusedVariables false
structure LS where
  k : List Int
  self : Int
  known : List Int
  asked : List Int
  opn : List Int
def stepK (self : Int) (kn : List Int) (n : Int) : List Int := if (decide (0 ≤ n) && (n != self) && !kn.contains n) = true then kn ++ [n] else kn
def knowL (self : Int) (kn more : List Int) : List Int := more.foldl (stepK self) kn
theorem knowL_succ (self : Int) (kn l : List Int) (k : Nat) (hk : k < l.length) : knowL self kn (l.take (k + 1)) = stepK self (knowL self kn (l.take k)) l[k] := by
  unfold knowL
  rw [List.take_succ_eq_append_getElem hk, List.foldl_append]
  rfl
theorem stepK_le (self : Int) (kn : List Int) (n : Int) : (stepK self kn n).length ≤ kn.length + 1 := by
  unfold stepK
  split <;> simp
theorem knowL_le (self : Int) : ∀ (more kn : List Int), (knowL self kn more).length ≤ kn.length + more.length
  | [], kn => Nat.le_refl _
  | x :: more, kn => by
    have h1 := knowL_le self more (stepK self kn x)
    have h2 := stepK_le self kn x
    simp only [List.length_cons]
    show (knowL self (stepK self kn x) more).length ≤ _
    omega
def LS.left (S : LS) : List Int := keepL (fun n => S.asked.contains n) S.known
def LS.know (S : LS) (more : List Int) : LS := { S with known := knowL S.self S.known more }
def LS.lost (S : LS) (x : Int) : LS := { S with opn := keepL (fun n => n == x) S.opn }
def LS.heard (S : LS) (x : Int) (more : List Int) : LS := if S.opn.contains x = true then (S.lost x).know more else S
def LS.next (S : LS) : LS := if S.left.length = 0 then S else { S with asked := S.asked ++ [minL S.k S.left], opn := S.opn ++ [minL S.k S.left] }
def LS.nextV (S : LS) : Int := if S.left.length = 0 then 0 else minL S.k S.left
def LS.nextB (S : LS) : Bool := !decide (S.left.length = 0)
def LS.done (S : LS) : Bool := decide (S.opn.length = 0) && decide (S.left.length = 0)
/-- an object's cells -/
def lcells (k : List Int) (self : Int) (v1 v2 v3 : Value) : Array Value := (cv k ++ [.int .i64 self, v1, v2, v3]).toArray
/-- the blocks of an object -/
def foot (p : Nat) (v1 v2 v3 : Value) (b : Nat) : Prop := b = p ∨ v1.ownBlock = some b ∨ v2.ownBlock = some b ∨ v3.ownBlock = some b
structure LO (t : TypeId) (W : World) (p : Nat) (S : LS) (v1 v2 v3 : Value) : Prop where
  key : Key20 S.k
  blk : W.heap[p]? = some (.cells (lcells S.k S.self v1 v2 v3) t (0, 0))
  o1 : W.ownsRow 0 3 1 v1 S.known.length (ints S.known)
  o2 : W.ownsRow 0 3 1 v2 S.asked.length (ints S.asked)
  o3 : W.ownsRow 0 3 1 v3 S.opn.length (ints S.opn)
  n12 : ∀ b, v1.ownBlock = some b → v2.ownBlock ≠ some b
  n13 : ∀ b, v1.ownBlock = some b → v3.ownBlock ≠ some b
  n23 : ∀ b, v2.ownBlock = some b → v3.ownBlock ≠ some b
/-- a step of an object's: only its blocks are turned, and what it has then lies there, or is new -/
structure LStep (W : World) (p : Nat) (v1 v2 v3 : Value) (W' : World) (u1 u2 u3 : Value) : Prop where
  T : Turns (foot p v1 v2 v3) W W'
  grow : ∀ b, foot p u1 u2 u3 b → foot p v1 v2 v3 b ∨ W.heap.size ≤ b
theorem LStep.refl (W : World) (p : Nat) (v1 v2 v3 : Value) : LStep W p v1 v2 v3 W v1 v2 v3 := ⟨Turns.refl _ _, fun b h => .inl h⟩
theorem LStep.below {W W' : World} {p : Nat} {v1 v2 v3 : Value} (h : Below W.heap.size W W') : LStep W p v1 v2 v3 W' v1 v2 v3 := ⟨Turns.of_below h _, fun b h => .inl h⟩
theorem LStep.trans {W W1 W2 : World} {p : Nat} {v1 v2 v3 u1 u2 u3 t1 t2 t3 : Value} (h : LStep W p v1 v2 v3 W1 u1 u2 u3) (h2 : LStep W1 p u1 u2 u3 W2 t1 t2 t3) : LStep W p v1 v2 v3 W2 t1 t2 t3 :=
  ⟨⟨h2.T.os.trans h.T.os, h2.T.tape.trans h.T.tape, h2.T.output.trans h.T.output, Nat.le_trans h.T.size h2.T.size, fun i hi hF => (h2.T.block i (Nat.lt_of_lt_of_le hi h.T.size) (fun hG => by
    rcases h.grow i hG with h3 | h3
    · exact hF h3
    · omega)).trans (h.T.block i hi hF)⟩, fun b hb => by
    rcases h2.grow b hb with h3 | h3
    · exact h.grow b h3
    · exact .inr (Nat.le_trans h.T.size h3)⟩
def LPost (t : TypeId) (W : World) (p : Nat) (v1 v2 v3 : Value) (S : LS) (r : Value) (e : Ending) (W' : World) : Prop :=
  e = .returned r ∧ ∃ u1 u2 u3, LO t W' p S u1 u2 u3 ∧ LStep W p v1 v2 v3 W' u1 u2 u3
section
variable {t : TypeId} {W W' : World} {p : Nat} {S : LS} {v1 v2 v3 : Value}
theorem lcells_size (k : List Int) (hk : k.length = 20) (self : Int) : (lcells k self v1 v2 v3).size = 24 := by simp [lcells, cv, hk]
theorem lcells_at (k : List Int) (hk : k.length = 20) (self : Int) (j : Nat) : (lcells k self v1 v2 v3)[20 + j]? = [Value.int .i64 self, v1, v2, v3][j]? := by
  unfold lcells
  rw [List.getElem?_toArray, List.getElem?_append_right (by rw [cv_length, hk]; omega), cv_length, hk, Nat.add_sub_cancel_left]
theorem lcells_set (k : List Int) (hk : k.length = 20) (self : Int) (j : Nat) (u : Value) : (lcells k self v1 v2 v3).setIfInBounds (20 + j) u = (cv k ++ [Value.int .i64 self, v1, v2, v3].set j u).toArray := by
  unfold lcells
  rw [List.setIfInBounds_toArray, List.set_append_right _ _ (by rw [cv_length, hk]; omega), cv_length, hk, Nat.add_sub_cancel_left]
theorem LO.lt (h : LO t W p S v1 v2 v3) : p < W.heap.size := lt_of_block h.blk
theorem LO.c20 (h : LO t W p S v1 v2 v3) : W.cell? ⟨p, 20, none⟩ = some (.int .i64 S.self) := by rw [cell_of_blk h.blk]; exact lcells_at S.k h.key.len S.self 0
theorem LO.c21 (h : LO t W p S v1 v2 v3) : W.cell? ⟨p, 21, none⟩ = some v1 := by rw [cell_of_blk h.blk]; exact lcells_at S.k h.key.len S.self 1
theorem LO.c22 (h : LO t W p S v1 v2 v3) : W.cell? ⟨p, 22, none⟩ = some v2 := by rw [cell_of_blk h.blk]; exact lcells_at S.k h.key.len S.self 2
theorem LO.c23 (h : LO t W p S v1 v2 v3) : W.cell? ⟨p, 23, none⟩ = some v3 := by rw [cell_of_blk h.blk]; exact lcells_at S.k h.key.len S.self 3
theorem LO.free (h : LO t W p S v1 v2 v3) (i : Nat) : W.frozen? ⟨p, i, none⟩ = false := free_of_blk h.blk
theorem LO.range (h : LO t W p S v1 v2 v3) : W.rangeAt p 0 (cv S.k) := fun j u hj => by
  rw [Nat.zero_add, cell_of_blk h.blk]
  unfold lcells
  rw [List.getElem?_toArray, List.getElem?_append_left (List.getElem?_eq_some_iff.1 hj).1]
  exact hj
theorem LO.keep {F : Nat → Prop} (h : LO t W p S v1 v2 v3) (T : Turns F W W') (hF : ∀ b, foot p v1 v2 v3 b → ¬ F b) : LO t W' p S v1 v2 v3 :=
  ⟨h.key, T.keep h.blk (hF p (.inl rfl)), T.own h.o1 (fun k hk => hF k (.inr (.inl hk))), T.own h.o2 (fun k hk => hF k (.inr (.inr (.inl hk)))), T.own h.o3 (fun k hk => hF k (.inr (.inr (.inr hk)))), h.n12, h.n13, h.n23⟩
theorem LO.below (h : LO t W p S v1 v2 v3) (hb : Below W.heap.size W W') : LO t W' p S v1 v2 v3 := h.keep (Turns.of_below hb (fun _ => False)) (fun _ _ h => h)
theorem LO.foot_lt (h : LO t W p S v1 v2 v3) : ∀ b, foot p v1 v2 v3 b → b < W.heap.size := by
  intro b hb
  rcases hb with rfl | hb | hb | hb
  · exact h.lt
  · exact (h.o1.lt b hb).2
  · exact (h.o2.lt b hb).2
  · exact (h.o3.lt b hb).2
theorem LO.set1 (h : LO t W p S v1 v2 v3) (ht : t ≠ 3) {u : Value} {l : List Int} (ho : W'.ownsRow 0 3 1 u l.length (ints l)) (T : Turns (fun b => v1.ownBlock = some b) W W') (hf : Fresh W v1 u) :
    LO t (W'.setCell ⟨p, 21, none⟩ u) p { S with known := l } u v2 v3 ∧ LStep W p v1 v2 v3 (W'.setCell ⟨p, 21, none⟩ u) u v2 v3 := by
  have hp1 := own_ne h.o1 h.blk ht
  have b1 := T.keep h.blk (fun e => hp1 e)
  have b2 := blk_setCell b1 21 u
  rw [lcells_set S.k h.key.len S.self 1 u] at b2
  have hpu := own_ne ho b1 ht
  have r2 := T.own h.o2 (fun k hk e => h.n12 k e hk)
  have r3 := T.own h.o3 (fun k hk e => h.n13 k e hk)
  have new : ∀ b, u.ownBlock = some b → v1.ownBlock = some b ∨ W.heap.size ≤ b := fun b hb => by
    rcases hf with e | ⟨q, e, hq⟩
    · exact .inl (by rw [← e]; exact hb)
    · rw [e] at hb; injection hb with hb; exact .inr (by omega)
  refine ⟨⟨h.key, b2, ownsRow_setCell_other ho (fun e => hpu e) _, ownsRow_setCell_other r2 (fun e => own_ne h.o2 h.blk ht e) _, ownsRow_setCell_other r3 (fun e => own_ne h.o3 h.blk ht e) _, fun b hb e => ?_, fun b hb e => ?_, h.n23⟩, ⟨?_, fun b hb => ?_⟩⟩
  · rcases new b hb with h1 | h1
    · exact h.n12 b h1 e
    · have := (h.o2.lt b e).2; omega
  · rcases new b hb with h1 | h1
    · exact h.n13 b h1 e
    · have := (h.o3.lt b e).2; omega
  · exact (T.mono (fun b _ hb => .inr (.inl hb))).setCell (.inr (.inl rfl)) u
  · rcases hb with hb | hb | hb | hb
    · exact .inl (.inl hb)
    · rcases new b hb with h1 | h1
      · exact .inl (.inr (.inl h1))
      · exact .inr h1
    · exact .inl (.inr (.inr (.inl hb)))
    · exact .inl (.inr (.inr (.inr hb)))
theorem LO.set2 (h : LO t W p S v1 v2 v3) (ht : t ≠ 3) {u : Value} {l : List Int} (ho : W'.ownsRow 0 3 1 u l.length (ints l)) (T : Turns (fun b => v2.ownBlock = some b) W W') (hf : Fresh W v2 u) :
    LO t (W'.setCell ⟨p, 22, none⟩ u) p { S with asked := l } v1 u v3 ∧ LStep W p v1 v2 v3 (W'.setCell ⟨p, 22, none⟩ u) v1 u v3 := by
  have hp1 := own_ne h.o2 h.blk ht
  have b1 := T.keep h.blk (fun e => hp1 e)
  have b2 := blk_setCell b1 22 u
  rw [lcells_set S.k h.key.len S.self 2 u] at b2
  have hpu := own_ne ho b1 ht
  have r1 := T.own h.o1 (fun k hk e => h.n12 k hk e)
  have r3 := T.own h.o3 (fun k hk e => h.n23 k e hk)
  have new : ∀ b, u.ownBlock = some b → v2.ownBlock = some b ∨ W.heap.size ≤ b := fun b hb => by
    rcases hf with e | ⟨q, e, hq⟩
    · exact .inl (by rw [← e]; exact hb)
    · rw [e] at hb; injection hb with hb; exact .inr (by omega)
  refine ⟨⟨h.key, b2, ownsRow_setCell_other r1 (fun e => own_ne h.o1 h.blk ht e) _, ownsRow_setCell_other ho (fun e => hpu e) _, ownsRow_setCell_other r3 (fun e => own_ne h.o3 h.blk ht e) _, fun b hb e => ?_, h.n13, fun b hb e => ?_⟩, ⟨?_, fun b hb => ?_⟩⟩
  · rcases new b e with h1 | h1
    · exact h.n12 b hb h1
    · have := (h.o1.lt b hb).2; omega
  · rcases new b hb with h1 | h1
    · exact h.n23 b h1 e
    · have := (h.o3.lt b e).2; omega
  · exact (T.mono (fun b _ hb => .inr (.inr (.inl hb)))).setCell (.inr (.inl rfl)) u
  · rcases hb with hb | hb | hb | hb
    · exact .inl (.inl hb)
    · exact .inl (.inr (.inl hb))
    · rcases new b hb with h1 | h1
      · exact .inl (.inr (.inr (.inl h1)))
      · exact .inr h1
    · exact .inl (.inr (.inr (.inr hb)))
theorem LO.set3 (h : LO t W p S v1 v2 v3) (ht : t ≠ 3) {u : Value} {l : List Int} (ho : W'.ownsRow 0 3 1 u l.length (ints l)) (T : Turns (fun b => v3.ownBlock = some b) W W') (hf : Fresh W v3 u) :
    LO t (W'.setCell ⟨p, 23, none⟩ u) p { S with opn := l } v1 v2 u ∧ LStep W p v1 v2 v3 (W'.setCell ⟨p, 23, none⟩ u) v1 v2 u := by
  have hp1 := own_ne h.o3 h.blk ht
  have b1 := T.keep h.blk (fun e => hp1 e)
  have b2 := blk_setCell b1 23 u
  rw [lcells_set S.k h.key.len S.self 3 u] at b2
  have hpu := own_ne ho b1 ht
  have r1 := T.own h.o1 (fun k hk e => h.n13 k hk e)
  have r2 := T.own h.o2 (fun k hk e => h.n23 k hk e)
  have new : ∀ b, u.ownBlock = some b → v3.ownBlock = some b ∨ W.heap.size ≤ b := fun b hb => by
    rcases hf with e | ⟨q, e, hq⟩
    · exact .inl (by rw [← e]; exact hb)
    · rw [e] at hb; injection hb with hb; exact .inr (by omega)
  refine ⟨⟨h.key, b2, ownsRow_setCell_other r1 (fun e => own_ne h.o1 h.blk ht e) _, ownsRow_setCell_other r2 (fun e => own_ne h.o2 h.blk ht e) _, ownsRow_setCell_other ho (fun e => hpu e) _, h.n12, fun b hb e => ?_, fun b hb e => ?_⟩, ⟨?_, fun b hb => ?_⟩⟩
  · rcases new b e with h1 | h1
    · exact h.n13 b hb h1
    · have := (h.o1.lt b hb).2; omega
  · rcases new b e with h1 | h1
    · exact h.n23 b hb h1
    · have := (h.o2.lt b hb).2; omega
  · exact (T.mono (fun b _ hb => .inr (.inr (.inr hb)))).setCell (.inr (.inl rfl)) u
  · rcases hb with hb | hb | hb | hb
    · exact .inl (.inl hb)
    · exact .inl (.inr (.inl hb))
    · exact .inl (.inr (.inr (.inl hb)))
    · rcases new b hb with h1 | h1
      · exact .inl (.inr (.inr (.inr h1)))
      · exact .inr h1
theorem LO.new (W : World) (k : List Int) (hk : Key20 k) (self : Int) : LO t (W.alloc (.cells (lcells k self (.slice none 0 0) (.slice none 0 0) (.slice none 0 0)) t)) W.heap.size ⟨k, self, [], [], []⟩ (.slice none 0 0) (.slice none 0 0) (.slice none 0 0) :=
  ⟨hk, heap_alloc_new W _, World.ownsRow_nil _ _ _ _, World.ownsRow_nil _ _ _ _, World.ownsRow_nil _ _ _ _, (fun b h => by cases h), (fun b h => by cases h), (fun b h => by cases h)⟩
end
end Go.Proofs.Ytbkcopejclcfdaa
