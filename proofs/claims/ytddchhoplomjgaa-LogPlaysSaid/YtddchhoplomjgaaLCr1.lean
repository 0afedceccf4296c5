/- LogCrashes: what its loops keep. -/
import Derived.Test.YtddchhoplomjgaaLSame
import Derived.Test.YtddchhoplomjgaaLPlain
namespace Go.Proofs.Ytddchhoplomjgaa
open Go.RowKit Go.Proofs.YtddchhoplomjgaaW.PrintLast
set_option linter.unusedVariables false
set_option linter.unusedSimpArgs false
theorem LInv.sep {I : Nat → Prop} {p : Nat} {W : World} {b : List Int} {sure : Int} (h : LInv I p W b sure) {B e s n : Nat} {v : Value} {xs : List Value} (hv : W.ownsRow B e s v n xs) (he : (5 : Nat) ≠ e) : LInv (fun k => I k ∧ ¬ v.ownBlock = some k) p W b sure := by
  obtain ⟨ad, cap, h1, h2⟩ := h
  exact ⟨ad, cap, h1, fun k hk => ⟨h2 k hk, own_ne2 h1.own hv he hk⟩⟩
theorem LInv.off {I : Nat → Prop} {p : Nat} {W : World} {b : List Int} {sure : Int} (h : LInv I p W b sure) {B e s n : Nat} {v : Value} {xs : List Value} (hv : W.ownsRow B e s v n xs) (he : (40 : Nat) ≠ e) : v.ownBlock ≠ some p := by
  obtain ⟨ad, cap, h1, h2⟩ := h
  exact own_ne hv h1.blk he
/-- a row of slices that came in -/
def ARow (W0 W : World) (B : Nat) (v : Value) (rows : List (List Int)) : Prop := ∃ cs, W.ownsRow B 38 1 v rows.length cs ∧ ∀ i (h : i < rows.length), ∃ ad cap, cs[i]? = some (.slice ad rows[i].length cap) ∧ Reads W0 ad (bv rows[i])
theorem ARow.nil (W0 W : World) (B : Nat) : ARow W0 W B (.slice none 0 0) [] := ⟨[], World.ownsRow_nil _ _ _ _, fun i h => by simp at h⟩
theorem ARow.rd {W0 W : World} {B : Nat} {ad : Option Addr} {cap : Nat} {rows : List (List Int)} (h : ARow W0 W B (.slice ad rows.length cap) rows) (hb : Below W0.heap.size W0 W) : RowsRd W ad rows := fun i hi => by
  obtain ⟨cs, h1, h2⟩ := h
  obtain ⟨a', c', h3, h4⟩ := h2 i hi
  obtain ⟨b, off, g1, g2, g3⟩ := Reads.of_own h1 i _ h3
  exact ⟨b, off, a', c', g1, g2, g3, h4.below hb⟩
theorem ARow.keep {F : Nat → Prop} {W0 W W' : World} {B : Nat} {v : Value} {rows : List (List Int)} (h : ARow W0 W B v rows) (T : Turns F W W') (hF : ∀ k, v.ownBlock = some k → ¬ F k) : ARow W0 W' B v rows := by
  obtain ⟨cs, h1, h2⟩ := h
  exact ⟨cs, T.own h1 hF, h2⟩
theorem ARow.snoc {W0 W1 : World} {B : Nat} {v' : Value} {rows : List (List Int)} {y : List Int} {ad : Option Addr} {cap : Nat} (cs : List Value) (hlc : cs.length = rows.length) (h2 : ∀ i (h : i < rows.length), ∃ ad cap, cs[i]? = some (.slice ad rows[i].length cap) ∧ Reads W0 ad (bv rows[i]))
    (hv : W1.ownsRow B 38 1 v' (rows.length + 1) (cs ++ [.slice ad y.length cap])) (hy : Reads W0 ad (bv y)) : ARow W0 W1 B v' (rows ++ [y]) := by
  refine ⟨cs ++ [.slice ad y.length cap], by rw [List.length_append]; exact hv, fun i hi => ?_⟩
  by_cases hlt : i < rows.length
  · obtain ⟨a', c', h3, h4⟩ := h2 i hlt
    exact ⟨a', c', by rw [List.getElem?_append_left (by omega), List.getElem_append_left hlt]; exact h3, by rw [List.getElem_append_left hlt]; exact h4⟩
  · have hil : i = rows.length := by rw [List.length_append] at hi; simp at hi; omega
    subst hil
    exact ⟨ad, cap, by rw [List.getElem?_append_right (by omega), List.getElem_append_right (Nat.le_refl _), hlc]; simp, by rw [List.getElem_append_right (Nat.le_refl _)]; simpa using hy⟩
/-- the state of the loops: the log at p = W1's size, the row of what it was told -/
structure CrR (W W1 wr : World) (v : Value) (rows : List (List Int)) (sure : Int) : Prop where
  log : LInv (fun k => W1.heap.size ≤ k) W1.heap.size wr (packs rows) sure
  row : ARow W wr W1.heap.size v rows
  turns : Turns (fun k => W1.heap.size ≤ k) W1 wr
  short : ∀ r ∈ rows, r.length ≤ 100
theorem CrR.shape {W W1 wr : World} {v : Value} {rows : List (List Int)} {sure : Int} (h : CrR W W1 wr v rows sure) : ∃ ad cap, v = .slice ad rows.length cap := by
  obtain ⟨cs, h1, _⟩ := h.row
  exact slice_of_own h1
theorem CrR.below {W W1 wr : World} {v : Value} {rows : List (List Int)} {sure : Int} (h : CrR W W1 wr v rows sure) (hb : Below W.heap.size W W1) : Below W.heap.size W wr :=
  hb.trans (h.turns.below hb.size (fun k hk hF => by have := hb.size; have : W1.heap.size ≤ k := hF; omega))
/-- Append in a round: the row is as it was -/
theorem CrR.append {W W1 wr : World} {v : Value} {rows : List (List Int)} {sure : Int} (h : CrR W W1 wr v rows sure) (hb : Below W.heap.size W W1) (hl : rows.length ≤ 1000) (A : Option Addr) (c : Nat) (y : List Int) (hr : Reads W A (bv y)) (hy : Bytes y) (hy2 : y.length ≤ 100) :
    Calls Try.prog 17 #[.pointer (some ⟨W1.heap.size, 0, none⟩), .slice A y.length c] wr fun e W' => e = .returned (.int .i64 0) ∧ LInv (fun k => W1.heap.size ≤ k ∧ ¬ v.ownBlock = some k) W1.heap.size W' (packs rows ++ packP y) sure ∧ ARow W W' W1.heap.size v rows ∧ Turns (fun k => W1.heap.size ≤ k) W1 W' := by
  obtain ⟨cs, hcs, hcs2⟩ := h.row
  have hs := h.log.sep hcs (by decide)
  have hoff := h.log.off hcs (by decide)
  have hlen := packs_len_le rows h.short
  refine (linv_append hs A c y.length y (by omega) (hr.below (h.below hb)) hy rfl (by omega) ?_).mono ?_
  · cases y with
    | nil => exact .inl rfl
    | cons u us =>
      right
      intro a ha
      obtain ⟨b, off, e1, e2, _⟩ := hr 0 _ rfl
      rw [ha] at e1
      injection e1 with e1
      have := hb.size
      rw [e1]
      exact ⟨by dsimp only; omega, fun hq => by have := hq.1; dsimp only at this; omega⟩
  · rintro e W' ⟨he, h1, h2⟩
    refine ⟨he, h1.mono (fun k hk => ?_), ⟨cs, h2.own hcs (fun k hk hF => ?_), hcs2⟩, h.turns.trans (h2.mono (fun k hk hF => ?_))⟩
    · rcases hk with hk | hk
      · exact hk
      · exact ⟨by have := h.turns.size; omega, fun hq => by have := (hcs.lt k hq).2; omega⟩
    · rcases hF with hF | hF
      · subst hF; exact hoff hk
      · exact hF.2 hk
    · rcases hF with hF | hF
      · show W1.heap.size ≤ k; omega
      · exact hF.1
/-- the row takes what the log took -/
theorem CrR.step {W W1 w2 w3 : World} {v v3 : Value} {rows : List (List Int)} {y : List Int} {sure : Int} {ad : Option Addr} {cap : Nat} {cs : List Value} (hlt : W1.heap.size < w2.heap.size) (o : Obj)
    (hl2 : LInv (fun k => W1.heap.size ≤ k ∧ ¬ v.ownBlock = some k) W1.heap.size w2 (packs rows ++ packP y) sure) (hT : Turns (fun k => W1.heap.size ≤ k) W1 w2) (hs : ∀ r ∈ rows, r.length ≤ 100) (hy : y.length ≤ 100) (hrd : Reads W ad (bv y))
    (hcs : (w2.alloc o).ownsRow W1.heap.size 38 1 v rows.length cs) (hcs2 : ∀ i (h : i < rows.length), ∃ ad cap, cs[i]? = some (.slice ad rows[i].length cap) ∧ Reads W ad (bv rows[i]))
    (ow3 : w3.ownsRow W1.heap.size 38 1 v3 (rows.length + 1) (cs ++ [.slice ad y.length cap])) (hg3 : Turns (fun k => v.ownBlock = some k) (w2.alloc o) w3) : CrR W W1 w3 v3 (rows ++ [y]) sure := by
  have T0 := (Turns.refl (fun _ => False) w2).alloc o
  have hl3 := hl2.keep T0 (fun h => h) (fun _ _ h => h)
  have hoff := hl3.off hcs (by decide)
  refine ⟨?_, ARow.snoc cs (by have := hcs.1; omega) hcs2 ow3 hrd, (hT.alloc o).trans (hg3.mono (fun k _ hF => (hcs.lt k hF).1)), fun r hr => ?_⟩
  · rw [packs_append, packs_cons, packs_nil, List.append_nil]
    exact (hl3.keep hg3 hoff (fun k hk hF => hk.2 hF)).mono (fun k hk => hk.1)
  · rcases List.mem_append.1 hr with h | h
    · exact hs r h
    · simp only [List.mem_cons, List.not_mem_nil, or_false] at h
      subst h
      exact hy
theorem linv_sure {I : Nat → Prop} {p : Nat} {W : World} {b : List Int} {sure : Int} (h : LInv I p W b sure) : Calls Try.prog 29 #[.pointer (some ⟨p, 0, none⟩)] W fun e W' => e = .returned (.tuple #[]) ∧ LInv I p W' b b.length ∧ Turns (fun k => k = p) W W' := by
  obtain ⟨ad, cap, h1, h2⟩ := h
  exact (sure_any W p ad cap b sure h1).mono fun e W' ⟨he, g1, g2⟩ => ⟨he, ⟨ad, cap, g1, h2⟩, g2⟩
theorem linv_crash {I : Nat → Prop} {p : Nat} {W : World} {b : List Int} {sure : Nat} (h : LInv I p W b sure) (keep : Int) (hs : sure ≤ b.length) (hl : b.length ≤ 1000000000) :
    Calls Try.prog 31 #[.pointer (some ⟨p, 0, none⟩), .int .i64 keep] W fun e W' => e = .returned (.tuple #[]) ∧ LInv I p W' (b.take (crashN b sure keep)) (crashN b sure keep) ∧ Turns (fun k => k = p) W W' := by
  obtain ⟨ad, cap, h1, h2⟩ := h
  refine (crash_any W p ad cap b sure keep h1 hs hl).mono fun e W' ⟨he, g1, g2⟩ => ⟨he, ⟨ad, cap, g1, fun k hk => h2 k ?_⟩, g2⟩
  cases ad with
  | none => cases hk
  | some a => exact hk
theorem RowsRd.take {W : World} {A : Option Addr} {rows : List (List Int)} (h : RowsRd W A rows) (m : Nat) : RowsRd W A (rows.take m) := fun i hi => by
  rw [List.length_take] at hi
  rw [List.getElem_take]
  exact h i (by omega)
end Go.Proofs.Ytddchhoplomjgaa
