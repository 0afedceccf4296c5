/- Next. -/
import Derived.Test.YtbkcopejclcfdaaLkNew
namespace Go.Proofs.Ytbkcopejclcfdaa
open Go.RowKit Go.Proofs.YtbkcopejclcfdaaW.PrintLast Go.Proofs.Ytbkcopejclcfdaa.Sum
set_option linter.unusedVariables false
set_option linter.unusedSimpArgs false
theorem at_row {w : World} {b : Nat} {x : Int} (h : w.heap[b]? = some (.cells #[.int .i64 x] 3 (0, 0))) : ∀ j u, [Value.int .i64 x][j]? = some u → w.cell? ((⟨b, 0, none⟩ : Addr).add j) = some u := fun j u hu => by
  rw [Addr.add_lit, Nat.zero_add, cell_of_row w b j _ _ _ h, List.getElem?_toArray]
  exact hu
/-- the last step of Next, in any order -/
structure NX (W2 : World) (bx p : Nat) (S : LS) (v1 v2 v3 : Value) (x : Int) (f7 f8 f14 f15 : Bool) (b1 b2 : Nat) (u2 u3 : Value) (w : World) : Prop where
  lo : LO 88 W2 p S v1 v2 v3
  box : w.cell? ⟨bx, 0, none⟩ = some (.pointer (some ⟨p, 0, none⟩))
  bxlt : bx < W2.heap.size
  bxne : v2.ownBlock ≠ some bx ∧ v3.ownBlock ≠ some bx
  T : Turns (fun b => v2.ownBlock = some b ∨ v3.ownBlock = some b) W2 w
  a0 : f8 = false → w.ownsRow 0 3 1 v2 S.asked.length (ints S.asked)
  a1 : f8 = true → w.ownsRow 0 3 1 u2 (S.asked.length + 1) (ints S.asked ++ [.int .i64 x]) ∧ Fresh W2 v2 u2
  o0 : f15 = false → w.ownsRow 0 3 1 v3 S.opn.length (ints S.opn)
  o1 : f15 = true → w.ownsRow 0 3 1 u3 (S.opn.length + 1) (ints S.opn ++ [.int .i64 x]) ∧ Fresh W2 v3 u3
  r1 : f7 = true → f8 = false → W2.heap.size ≤ b1 ∧ w.heap[b1]? = some (.cells #[.int .i64 x] 3 (0, 0))
  r2 : f14 = true → f15 = false → W2.heap.size ≤ b2 ∧ w.heap[b2]? = some (.cells #[.int .i64 x] 3 (0, 0))
  ne : f8 = true → f15 = true → ∀ b, u2.ownBlock = some b → u3.ownBlock ≠ some b
section
variable {W2 : World} {bx p : Nat} {S : LS} {v1 v2 v3 : Value} {x : Int} {f7 f8 f14 f15 : Bool} {b1 b2 : Nat} {u2 u3 : Value} {w w' : World}
theorem NX.blk (h : NX W2 bx p S v1 v2 v3 x f7 f8 f14 f15 b1 b2 u2 u3 w) : w.heap[p]? = some (.cells (lcells S.k S.self v1 v2 v3) 88 (0, 0)) :=
  h.T.keep h.lo.blk (fun e => by
    rcases e with e | e
    · exact own_ne h.lo.o2 h.lo.blk (by decide) e
    · exact own_ne h.lo.o3 h.lo.blk (by decide) e)
theorem NX.held (h : NX W2 bx p S v1 v2 v3 x f7 f8 f14 f15 b1 b2 u2 u3 w) : w.cell? ⟨bx, 0, none⟩ = some (.pointer (some ⟨p, 0, none⟩)) ∧ w.cell? ⟨p, 23, none⟩ = some v3 :=
  ⟨h.box, by rw [cell_of_blk h.blk]; exact lcells_at S.k h.lo.key.len S.self 3⟩
theorem NX.c22 (h : NX W2 bx p S v1 v2 v3 x f7 f8 f14 f15 b1 b2 u2 u3 w) : w.cell? ⟨p, 22, none⟩ = some v2 := by rw [cell_of_blk h.blk]; exact lcells_at S.k h.lo.key.len S.self 2
theorem NX.boxs (h : NX W2 bx p S v1 v2 v3 x f7 f8 f14 f15 b1 b2 u2 u3 w) {u : Value} : (w.setCell ⟨p, 22, none⟩ u).cell? ⟨bx, 0, none⟩ = some (.pointer (some ⟨p, 0, none⟩)) := by
  rw [World.cell?_setCell_other _ _ _ _ (fun e => by injection e with e1 e2; omega)]
  exact h.box
theorem NX.free (h : NX W2 bx p S v1 v2 v3 x f7 f8 f14 f15 b1 b2 u2 u3 w) (i : Nat) : w.frozen? ⟨p, i, none⟩ = false := free_of_blk h.blk
theorem NX.c23s (h : NX W2 bx p S v1 v2 v3 x f7 f8 f14 f15 b1 b2 u2 u3 w) {u : Value} : (w.setCell ⟨p, 22, none⟩ u).cell? ⟨p, 23, none⟩ = some v3 := by
  rw [cell_of_blk (blk_setCell h.blk 22 u), lcells_set S.k h.lo.key.len S.self 2 u]
  have := lcells_at (v1 := v1) (v2 := u) (v3 := v3) S.k h.lo.key.len S.self 3
  unfold lcells at this
  exact this
theorem NX.free2 (h : NX W2 bx p S v1 v2 v3 x f7 f8 f14 f15 b1 b2 u2 u3 w) {u : Value} (i : Nat) : (w.setCell ⟨p, 22, none⟩ u).frozen? ⟨p, i, none⟩ = false := free_of_blk (blk_setCell h.blk 22 u)
theorem NX.alloc (h : NX W2 bx p S v1 v2 v3 x f7 f8 f14 f15 b1 b2 u2 u3 w) (o : Obj) : NX W2 bx p S v1 v2 v3 x f7 f8 f14 f15 b1 b2 u2 u3 (w.alloc o) := by
  have hb : Below w.heap.size w (w.alloc o) := (Below.refl _ _).alloc (Nat.le_refl _) _
  have T0 := Turns.of_below hb (fun _ => False)
  refine ⟨h.lo, ?_, h.bxlt, h.bxne, h.T.alloc o, fun e => T0.own (h.a0 e) (fun _ _ h => h), fun e => ⟨T0.own (h.a1 e).1 (fun _ _ h => h), (h.a1 e).2⟩, fun e => T0.own (h.o0 e) (fun _ _ h => h), fun e => ⟨T0.own (h.o1 e).1 (fun _ _ h => h), (h.o1 e).2⟩, fun e e2 => ⟨(h.r1 e e2).1, T0.keep (h.r1 e e2).2 (fun h => h)⟩, fun e e2 => ⟨(h.r2 e e2).1, T0.keep (h.r2 e e2).2 (fun h => h)⟩, h.ne⟩
  rw [hb.cell (p := ⟨bx, 0, none⟩) (Nat.lt_of_lt_of_le h.bxlt h.T.size)]
  exact h.box
theorem NX.build1 (h : NX W2 bx p S v1 v2 v3 x false false f14 f15 b1 b2 u2 u3 w) : NX W2 bx p S v1 v2 v3 x true false f14 f15 w.heap.size b2 u2 u3 (w.alloc (.cells #[.int .i64 x] 3)) := by
  have h2 := h.alloc (.cells #[.int .i64 x] 3)
  exact ⟨h2.lo, h2.box, h2.bxlt, h2.bxne, h2.T, h2.a0, h2.a1, h2.o0, h2.o1, fun _ _ => ⟨h.T.size, heap_alloc_new _ _⟩, h2.r2, h2.ne⟩
theorem NX.build2 (h : NX W2 bx p S v1 v2 v3 x f7 f8 false false b1 b2 u2 u3 w) : NX W2 bx p S v1 v2 v3 x f7 f8 true false b1 w.heap.size u2 u3 (w.alloc (.cells #[.int .i64 x] 3)) := by
  have h2 := h.alloc (.cells #[.int .i64 x] 3)
  exact ⟨h2.lo, h2.box, h2.bxlt, h2.bxne, h2.T, h2.a0, h2.a1, h2.o0, h2.o1, h2.r1, fun _ _ => ⟨h.T.size, heap_alloc_new _ _⟩, h2.ne⟩
theorem fresh_back {v u : Value} (h : Fresh w v u) (hs : W2.heap.size ≤ w.heap.size) : Fresh W2 v u := by
  rcases h with e | ⟨q, e, hq⟩
  · exact .inl e
  · exact .inr ⟨q, e, by omega⟩
theorem NX.app1 (h : NX W2 bx p S v1 v2 v3 x true false f14 false b1 b2 u2 u3 w) {u : Value} (ho : w'.ownsRow 0 3 1 u (S.asked.length + 1) (ints S.asked ++ [.int .i64 x])) (T : Turns (fun k => v2.ownBlock = some k) w w') (hf : Fresh w v2 u) : NX W2 bx p S v1 v2 v3 x true true f14 false b1 b2 u u3 w' := by
  have hs := h.T.size
  refine ⟨h.lo, ?_, h.bxlt, h.bxne, h.T.trans (T.mono (fun _ _ h => .inl h)), fun e => (by cases e), fun _ => ⟨ho, fresh_back hf hs⟩, fun _ => T.own (h.o0 rfl) (fun k hk e => h.lo.n23 k e hk), fun e => (by cases e), fun _ e => (by cases e), fun e e2 => ⟨(h.r2 e e2).1, T.keep (h.r2 e e2).2 (fun e3 => ?_)⟩, fun _ e => (by cases e)⟩
  · rw [World.cell?_of_block (T.block bx (Nat.lt_of_lt_of_le h.bxlt hs) h.bxne.1)]
    exact h.box
  · have := (h.lo.o2.lt _ e3).2
    have := (h.r2 e e2).1
    omega
theorem NX.app2 (h : NX W2 bx p S v1 v2 v3 x true true true false b1 b2 u2 u3 w) {u : Value} (ho : w'.ownsRow 0 3 1 u (S.opn.length + 1) (ints S.opn ++ [.int .i64 x])) (T : Turns (fun k => v3.ownBlock = some k) w w') (hf : Fresh w v3 u) : NX W2 bx p S v1 v2 v3 x true true true true b1 b2 u2 u w' := by
  have hs := h.T.size
  have key : ∀ b, u2.ownBlock = some b → v3.ownBlock ≠ some b := fun b hb e => by
    rcases (h.a1 rfl).2 with e2 | ⟨q, e2, hq⟩
    · rw [e2] at hb; exact h.lo.n23 b hb e
    · rw [e2] at hb
      injection hb with hb
      have := (h.lo.o3.lt b e).2
      omega
  refine ⟨h.lo, ?_, h.bxlt, h.bxne, h.T.trans (T.mono (fun _ _ h => .inr h)), fun e => (by cases e), fun _ => ⟨T.own (h.a1 rfl).1 (fun k hk e => key k hk e), (h.a1 rfl).2⟩, fun e => (by cases e), fun _ => ⟨ho, fresh_back hf hs⟩, fun _ e => (by cases e), fun _ e => (by cases e), fun _ _ b hb e => ?_⟩
  · rw [World.cell?_of_block (T.block bx (Nat.lt_of_lt_of_le h.bxlt hs) h.bxne.2)]
    exact h.box
  · rcases hf with e2 | ⟨q, e2, hq⟩
    · exact key b hb (by rw [← e2]; exact e)
    · rw [e2] at e
      injection e with e
      have := ((h.a1 rfl).1.lt b hb).2
      omega
theorem NX.fin (h : NX W2 bx p S v1 v2 v3 x true true true true b1 b2 u2 u3 w) (hl : LO 88 W2 p S v1 v2 v3) : LO 88 ((w.setCell ⟨p, 22, none⟩ u2).setCell ⟨p, 23, none⟩ u3) p { S with asked := S.asked ++ [x], opn := S.opn ++ [x] } v1 u2 u3 ∧ LStep W2 p v1 v2 v3 ((w.setCell ⟨p, 22, none⟩ u2).setCell ⟨p, 23, none⟩ u3) v1 u2 u3 := by
  have blk := h.blk
  have r1 := h.T.own hl.o1 (fun k hk e => by
    rcases e with e | e
    · exact hl.n12 k hk e
    · exact hl.n13 k hk e)
  have b2 := blk_setCell (blk_setCell blk 22 u2) 23 u3
  rw [lcells_set S.k hl.key.len S.self 2 u2] at b2
  have e2 : (cv S.k ++ [Value.int .i64 S.self, v1, v2, v3].set 2 u2).toArray = lcells S.k S.self v1 u2 v3 := rfl
  rw [e2, lcells_set S.k hl.key.len S.self 3 u3] at b2
  have n1 := own_ne r1 blk (by decide)
  have n2 := own_ne (h.a1 rfl).1 blk (by decide)
  have n3 := own_ne (h.o1 rfl).1 blk (by decide)
  have new2 : ∀ b, u2.ownBlock = some b → v2.ownBlock = some b ∨ W2.heap.size ≤ b := fun b hb => by
    rcases (h.a1 rfl).2 with e | ⟨q, e, hq⟩
    · exact .inl (by rw [← e]; exact hb)
    · rw [e] at hb; injection hb with hb; exact .inr (by omega)
  have new3 : ∀ b, u3.ownBlock = some b → v3.ownBlock = some b ∨ W2.heap.size ≤ b := fun b hb => by
    rcases (h.o1 rfl).2 with e | ⟨q, e, hq⟩
    · exact .inl (by rw [← e]; exact hb)
    · rw [e] at hb; injection hb with hb; exact .inr (by omega)
  refine ⟨⟨hl.key, b2, ownsRow_setCell_other (ownsRow_setCell_other r1 (fun e => n1 e) _) (fun e => n1 e) _, ?_, ?_, fun b hb e => ?_, fun b hb e => ?_, h.ne rfl rfl⟩, ⟨?_, fun b hb => ?_⟩⟩
  · have := ownsRow_setCell_other (a := ⟨p, 23, none⟩) (ownsRow_setCell_other (a := ⟨p, 22, none⟩) (h.a1 rfl).1 (fun e => n2 e) u2) (fun e => n2 e) u3
    simpa [ints] using this
  · have := ownsRow_setCell_other (a := ⟨p, 23, none⟩) (ownsRow_setCell_other (a := ⟨p, 22, none⟩) (h.o1 rfl).1 (fun e => n3 e) u2) (fun e => n3 e) u3
    simpa [ints] using this
  · rcases new2 b e with h1 | h1
    · exact hl.n12 b hb h1
    · have := (hl.o1.lt b hb).2; omega
  · rcases new3 b e with h1 | h1
    · exact hl.n13 b hb h1
    · have := (hl.o1.lt b hb).2; omega
  · exact ((h.T.mono (G := foot p v1 v2 v3) (fun b _ hb => by
      rcases hb with hb | hb
      · exact .inr (.inr (.inl hb))
      · exact .inr (.inr (.inr hb)))).setCell (p := ⟨p, 22, none⟩) (.inr (.inl rfl)) u2).setCell (p := ⟨p, 23, none⟩) (.inr (.inl rfl)) u3
  · rcases hb with hb | hb | hb | hb
    · exact .inl (.inl hb)
    · exact .inl (.inr (.inl hb))
    · rcases new2 b hb with h1 | h1
      · exact .inl (.inr (.inr (.inl h1)))
      · exact .inr h1
    · rcases new3 b hb with h1 | h1
      · exact .inl (.inr (.inr (.inr h1)))
      · exact .inr h1
end
set_option maxHeartbeats 4000000 in
set_option maxRecDepth 20000 in
theorem next_any (W : World) (p : Nat) (S : LS) (v1 v2 v3 : Value) (h : LO 88 W p S v1 v2 v3) (hl : S.known.length ≤ 1000000) (hl2 : S.asked.length ≤ 1000000) (hl3 : S.opn.length ≤ 1000000) :
    Calls Try.prog 36 #[.pointer (some ⟨p, 0, none⟩)] W (LPost 88 W p v1 v2 v3 S.next (.tuple #[.int .i64 S.nextV, .bool S.nextB])) := by
  obtain ⟨W1, hW1⟩ : ∃ W1, W.alloc (.cells #[.pointer (some ⟨p, 0, none⟩)] 56) = W1 := ⟨_, rfl⟩
  have hb1 : Below W.heap.size W W1 := by rw [← hW1]; exact (Below.refl _ _).alloc (Nat.le_refl _) _
  have hcb : W1.cell? ⟨W.heap.size, 0, none⟩ = some (.pointer (some ⟨p, 0, none⟩)) := by rw [← hW1, World.cell?_alloc_new]; rfl
  have hs1 : W1.heap.size = W.heap.size + 1 := by rw [← hW1]; simp
  have h1 := h.below hb1
  have HL := Lib.hid (left_any W1 p S v1 v2 v3 h1 hl hl2)
  have hlt := h.lt
  have HH := Lib.hid h
  have HH1 := Lib.hid h1
  have HB1 := Lib.hid hb1
  have HS1 := Lib.hid hs1
  have HCB := Lib.hid hcb
  have HW1 := Lib.hid hW1
  have hlt1 := h1.lt
  obtain ⟨i0, hi, hz0, hz1, hz2⟩ := info_parts info3p
  have hmf : ∀ (fn : Fn) (first cap : Array Value) (w : World), (Instr.makeFunc fn first cap).run Try.prog w = .ok (.func fn first cap) w := fun _ _ _ _ => rfl
  have hLL : S.left.length ≤ 1000000 := by
    unfold LS.left keepL
    exact Nat.le_trans (List.length_filter_le _ _) hl
  by_cases hq : S.left.length = 0
  · have HN1 := Lib.hid (show S.next = S by unfold LS.next; rw [if_pos hq])
    have HN2 := Lib.hid (show S.nextV = 0 by unfold LS.nextV; rw [if_pos hq])
    have HN3 := Lib.hid (show S.nextB = false by unfold LS.nextB; rw [hq]; rfl)
    have HQ := Lib.hid hq
    clear h h1 hb1 hs1 hcb hq hW1
    go_enter Try.func36, Try.ntmps36
    go_wp2_with fail
    show Calls Try.prog 64 _ (W.alloc (.cells #[.pointer (some ⟨p, 0, none⟩)] 56)) _
    rw [HW1.out]
    refine HL.out.mono ?_
    rintro e w2 ⟨ad, cap, rfl, ho, hb⟩
    have HB2 := Lib.hid (HB1.out.trans (hb.mono HB1.out.size))
    rw [HQ.out]
    clear ho hb
    go_wp2
    go_ret2
    rw [HN1.out, HN2.out, HN3.out]
    exact ⟨rfl, v1, v2, v3, HH.out.below HB2.out, LStep.below HB2.out⟩
  · obtain ⟨q, hLq⟩ : ∃ q, S.left.length = q := ⟨_, rfl⟩
    have HLq := Lib.hid hLq
    obtain ⟨x, hx⟩ : ∃ x, minL S.k S.left = x := ⟨_, rfl⟩
    have HX := Lib.hid hx
    have HN1 := Lib.hid (show S.next = { S with asked := S.asked ++ [x], opn := S.opn ++ [x] } by unfold LS.next; rw [if_neg hq, hx])
    have HN2 := Lib.hid (show S.nextV = x by unfold LS.nextV; rw [if_neg hq, hx])
    have HN3 := Lib.hid (show S.nextB = true by unfold LS.nextB; simp [hq])
    have iq : ((q : Int) == 0) = false := by simp; omega
    have iq2 : 0 < q := by omega
    rw [hLq] at hLL
    obtain ⟨ad2, cap2, rfl⟩ := slice_of_own h.o2
    obtain ⟨ad3, cap3, rfl⟩ := slice_of_own h.o3
    clear h h1 hb1 hs1 hcb hq hW1 hLq hx
    go_enter Try.func36, Try.ntmps36
    go_wp2_with fail
    show Calls Try.prog 64 _ (W.alloc (.cells #[.pointer (some ⟨p, 0, none⟩)] 56)) _
    rw [HW1.out]
    refine HL.out.mono ?_
    rintro e w2 ⟨ad, cap, rfl, ho, hb⟩
    have hcb2 : w2.cell? ⟨W.heap.size, 0, none⟩ = some (.pointer (some ⟨p, 0, none⟩)) := by
      rw [hb.cell (p := ⟨W.heap.size, 0, none⟩) (by have := HS1.out; dsimp only; omega)]
      exact HCB.out
    have hO2 := HH1.out.below hb
    have hbx := World.block_lt_of_cell? _ _ hcb2
    dsimp only at hbx
    have HM := min65_any w2 ad S.left.length cap S.left S.k W.heap.size rfl (by have := HLq.out; omega) (by have := HLq.out; omega) (Reads.of_own ho) (fun w' hb' x y => clo65_any w' W.heap.size p S.k x y hO2.key (by rw [hb'.cell (p := ⟨W.heap.size, 0, none⟩) hbx]; exact hcb2) (hO2.below hb').range (hO2.below hb').lt)
    rw [HX.out] at HM
    rw [HLq.out] at HM ⊢
    have HM := Lib.hid HM
    have HO2 := Lib.hid hO2
    have HCB2 := Lib.hid hcb2
    have HB2 := Lib.hid (HB1.out.trans (hb.mono HB1.out.size))
    have HSZ2 := Lib.hid hb.size
    clear ho hb hO2
    go_wp2_with fail
    refine HM.out.mono ?_
    rintro e w3 ⟨rfl, hb⟩
    have hO3 := HO2.out.below hb
    have hcb3 : w3.cell? ⟨W.heap.size, 0, none⟩ = some (.pointer (some ⟨p, 0, none⟩)) := by
      rw [hb.cell (p := ⟨W.heap.size, 0, none⟩) hbx]
      exact HCB2.out
    have HB3 := Lib.hid (HB2.out.trans (hb.mono HB2.out.size))
    have HLO := Lib.hid (hO3.below (Below.drew (Below.refl _ _)))
    have hlt3 : W.heap.size < w3.drew.heap.size := Nat.lt_of_lt_of_le hbx hb.size
    have HEND := Lib.hid (fun (w' : World) u1 u2 u3 (ho : LO 88 w' p { S with asked := S.asked ++ [x], opn := S.opn ++ [x] } u1 u2 u3) (st : LStep w3.drew p v1 (.slice ad2 S.asked.length cap2) (.slice ad3 S.opn.length cap3) w' u1 u2 u3) =>
      (show LPost 88 W p v1 (.slice ad2 S.asked.length cap2) (.slice ad3 S.opn.length cap3) S.next (.tuple #[.int .i64 S.nextV, .bool S.nextB]) (.returned (.tuple #[.int .i64 x, .bool true])) w' from
        ⟨by rw [HN2.out, HN3.out], u1, u2, u3, by rw [HN1.out]; exact ho, (LStep.below (Below.drew HB3.out)).trans st⟩))
    have HROOT := Lib.hid (show NX w3.drew W.heap.size p S v1 (.slice ad2 S.asked.length cap2) (.slice ad3 S.opn.length cap3) x false false false false 0 0 undef undef w3.drew from
      ⟨HLO.out, hcb3, hlt3, ⟨fun e => by have := (HH.out.o2.lt _ e).2; omega, fun e => by have := (HH.out.o3.lt _ e).2; omega⟩, Turns.refl _ _, fun _ => HLO.out.o2, fun e => (by cases e), fun _ => HLO.out.o3, fun e => (by cases e), fun e => (by cases e), fun e => (by cases e), fun e => (by cases e)⟩)
    have hS0 := HROOT.out.held
    clear hb hO3 hcb3 hcb2 hbx HM
    go_wp2
    refine start_ (n := 22) (S := fun w' => w'.cell? ⟨W.heap.size, 0, none⟩ = some (.pointer (some ⟨p, 0, none⟩)) ∧ w'.cell? ⟨p, 23, none⟩ = some (.slice ad3 S.opn.length cap3)) (ds := [21]) #[false, false, false, false, false, false, false, false, false, false, false, false, false, false, false, false, false, false, false, false, false, false] (by kernel_rfl) rfl rfl (hS0) (fun hHeld => ?_)
    have hroot := HROOT.out
    generalize w3.drew = W2 at *
    refine take_ (i := 0) (N := some 16) (v := ?_) (a' := ?_) #[true, false, false, false, false, false, false, false, false, false, false, false, false, false, false, false, false, false, false, false, false, false] rfl rfl (by kernel_rfl) (fun _ _ _ h => h) (Or.inl ⟨by rfl, ?_⟩) hHeld ?_ ?_
    rotate_left
    · intro w' hSw
      obtain ⟨h1, h2⟩ := hSw
      go_simp
      with_reducible rfl
    rotate_left
    · simp only [Act.put, List.setIfInBounds_toArray, List.set_cons_zero, List.set_cons_succ]
      rfl
    refine take_ (i := 1) (N := some 17) (v := ?_) (a' := ?_) #[true, true, false, false, false, false, false, false, false, false, false, false, false, false, false, false, false, false, false, false, false, false] rfl rfl (by kernel_rfl) (fun _ _ _ h => h) (Or.inl ⟨by rfl, ?_⟩) hHeld ?_ ?_
    rotate_left
    · intro w' hSw
      obtain ⟨h1, h2⟩ := hSw
      go_simp
      with_reducible rfl
    rotate_left
    · simp only [Act.put, List.setIfInBounds_toArray, List.set_cons_zero, List.set_cons_succ]
      rfl
    refine take_ (i := 2) (N := some 18) (v := ?_) (a' := ?_) #[true, true, true, false, false, false, false, false, false, false, false, false, false, false, false, false, false, false, false, false, false, false] rfl rfl (by kernel_rfl) (fun _ _ _ h => h) (Or.inl ⟨by rfl, ?_⟩) hHeld ?_ ?_
    rotate_left
    · intro w' hSw
      obtain ⟨h1, h2⟩ := hSw
      go_simp
      with_reducible rfl
    rotate_left
    · simp only [Act.put, List.setIfInBounds_toArray, List.set_cons_zero, List.set_cons_succ]
      rfl
    refine pure_ (i := 3) (N := some 19) (v := ?_) (a' := ?_) #[true, true, true, true, false, false, false, false, false, false, false, false, false, false, false, false, false, false, false, false, false, false] rfl rfl (by kernel_rfl) (fun _ _ _ h => h) (Or.inl ⟨by rfl, ?_⟩) ?_ ?_
    rotate_left
    · intro w'
      go_simp
      with_reducible rfl
    rotate_left
    · simp only [Act.put, List.setIfInBounds_toArray, List.set_cons_zero, List.set_cons_succ]
      rfl
    refine pure_ (i := 4) (N := some 20) (v := ?_) (a' := ?_) #[true, true, true, true, true, false, false, false, false, false, false, false, false, false, false, false, false, false, false, false, false, false] rfl rfl (by kernel_rfl) (fun _ _ _ h => h) (Or.inl ⟨by rfl, ?_⟩) ?_ ?_
    rotate_left
    · intro w'
      go_simp
      with_reducible rfl
    rotate_left
    · simp only [Act.put, List.setIfInBounds_toArray, List.set_cons_zero, List.set_cons_succ]
      rfl
    refine pure_ (i := 6) (N := some 22) (v := ?_) (a' := ?_) #[true, true, true, true, true, false, true, false, false, false, false, false, false, false, false, false, false, false, false, false, false, false] rfl rfl (by kernel_rfl) (fun _ _ _ h => h) (Or.inl ⟨by rfl, ?_⟩) ?_ ?_
    rotate_left
    · intro w'
      go_simp
      with_reducible rfl
    rotate_left
    · simp only [Act.put, List.setIfInBounds_toArray, List.set_cons_zero, List.set_cons_succ]
      rfl
    refine take_ (i := 9) (N := some 25) (v := ?_) (a' := ?_) #[true, true, true, true, true, false, true, false, false, true, false, false, false, false, false, false, false, false, false, false, false, false] rfl rfl (by kernel_rfl) (fun _ _ _ h => h) (Or.inl ⟨by rfl, ?_⟩) hHeld ?_ ?_
    rotate_left
    · intro w' hSw
      obtain ⟨h1, h2⟩ := hSw
      go_simp
      with_reducible rfl
    rotate_left
    · simp only [Act.put, List.setIfInBounds_toArray, List.set_cons_zero, List.set_cons_succ]
      rfl
    refine pure_ (i := 10) (N := some 26) (v := ?_) (a' := ?_) #[true, true, true, true, true, false, true, false, false, true, true, false, false, false, false, false, false, false, false, false, false, false] rfl rfl (by kernel_rfl) (fun _ _ _ h => h) (Or.inl ⟨by rfl, ?_⟩) ?_ ?_
    rotate_left
    · intro w'
      go_simp
      with_reducible rfl
    rotate_left
    · simp only [Act.put, List.setIfInBounds_toArray, List.set_cons_zero, List.set_cons_succ]
      rfl
    refine pure_ (i := 11) (N := some 27) (v := ?_) (a' := ?_) #[true, true, true, true, true, false, true, false, false, true, true, true, false, false, false, false, false, false, false, false, false, false] rfl rfl (by kernel_rfl) (fun _ _ _ h => h) (Or.inl ⟨by rfl, ?_⟩) ?_ ?_
    rotate_left
    · intro w'
      go_simp
      with_reducible rfl
    rotate_left
    · simp only [Act.put, List.setIfInBounds_toArray, List.set_cons_zero, List.set_cons_succ]
      rfl
    refine take_ (i := 12) (N := some 28) (v := ?_) (a' := ?_) #[true, true, true, true, true, false, true, false, false, true, true, true, true, false, false, false, false, false, false, false, false, false] rfl rfl (by kernel_rfl) (fun _ _ _ h => h) (Or.inl ⟨by rfl, ?_⟩) hHeld ?_ ?_
    rotate_left
    · intro w' hSw
      obtain ⟨h1, h2⟩ := hSw
      go_simp
      with_reducible rfl
    rotate_left
    · simp only [Act.put, List.setIfInBounds_toArray, List.set_cons_zero, List.set_cons_succ]
      rfl
    refine pure_ (i := 13) (N := some 29) (v := ?_) (a' := ?_) #[true, true, true, true, true, false, true, false, false, true, true, true, true, true, false, false, false, false, false, false, false, false] rfl rfl (by kernel_rfl) (fun _ _ _ h => h) (Or.inl ⟨by rfl, ?_⟩) ?_ ?_
    rotate_left
    · intro w'
      go_simp
      with_reducible rfl
    rotate_left
    · simp only [Act.put, List.setIfInBounds_toArray, List.set_cons_zero, List.set_cons_succ]
      rfl
    refine join_ (σ := Nat × Nat × Value × Value) 6 #[true, true, true, true, true, true, true, true, true, true, true, true, true, true, true, true, false, false, false, false, false, false] (fun s => [(21, Value.slice ad2 S.asked.length cap2), (23, Value.slice (some ⟨s.1, 0, none⟩) 1 1), (24, s.2.2.1), (30, Value.slice (some ⟨s.2.1, 0, none⟩) 1 1), (31, s.2.2.2)]) (fun s w' => NX W2 W.heap.size p S v1 (.slice ad2 S.asked.length cap2) (.slice ad3 S.opn.length cap3) x true true true true s.1 s.2.1 s.2.2.1 s.2.2.2 w') ?_ (fun HJ5_7_8_14_15 => ?_)
    · intro s w' hF
      have hHeld := hF.held
      refine norm_ (a' := ?_) ?_ ?_
      rotate_left
      · (try unfold Act.put); (try simp only [putAll, Act.put, List.setIfInBounds_toArray, List.set_cons_zero, List.set_cons_succ])
        rfl
      obtain ⟨bb1, bb2, u2, u3⟩ := s
      dsimp only at hF
      obtain ⟨ad4, cap4, rfl⟩ := slice_of_own (hF.a1 rfl).1
      obtain ⟨ad5, cap5, rfl⟩ := slice_of_own (hF.o1 rfl).1
      refine pure_ (i := 16) (N := some 32) (v := ?_) (a' := ?_) #[true, true, true, true, true, true, true, true, true, true, true, true, true, true, true, true, true, false, false, false, false, false] rfl rfl (by kernel_rfl) (fun _ _ _ h => h) (Or.inl ⟨by rfl, ?_⟩) ?_ ?_
      rotate_left
      · intro w'
        go_simp
        with_reducible rfl
      rotate_left
      · simp only [Act.put, List.setIfInBounds_toArray, List.set_cons_zero, List.set_cons_succ]
        rfl
      refine pure_ (i := 17) (N := some 33) (v := ?_) (a' := ?_) #[true, true, true, true, true, true, true, true, true, true, true, true, true, true, true, true, true, true, false, false, false, false] rfl rfl (by kernel_rfl) (fun _ _ _ h => h) (Or.inl ⟨by rfl, ?_⟩) ?_ ?_
      rotate_left
      · intro w'
        go_simp
        with_reducible rfl
      rotate_left
      · simp only [Act.put, List.setIfInBounds_toArray, List.set_cons_zero, List.set_cons_succ]
        rfl
      have c7 := hF.c22
      have f7 := hF.free 22
      refine one_ (i := 18) (N := none) #[true, true, true, true, true, true, true, true, true, true, true, true, true, true, true, true, true, true, true, false, false, false] rfl rfl (by kernel_rfl) (by decide) (fun K hK => ?_)
      go_simp
      refine hK.out _ _ ⟨hF.boxs, hF.c23s⟩ (fun hHeld => ?_)
      clear hK K
      refine pure_ (i := 19) (N := some 34) (v := ?_) (a' := ?_) #[true, true, true, true, true, true, true, true, true, true, true, true, true, true, true, true, true, true, true, true, false, false] rfl rfl (by kernel_rfl) (fun _ _ _ h => h) (Or.inl ⟨by rfl, ?_⟩) ?_ ?_
      rotate_left
      · intro w'
        go_simp
        with_reducible rfl
      rotate_left
      · simp only [Act.put, List.setIfInBounds_toArray, List.set_cons_zero, List.set_cons_succ]
        rfl
      refine pure_ (i := 20) (N := some 35) (v := ?_) (a' := ?_) #[true, true, true, true, true, true, true, true, true, true, true, true, true, true, true, true, true, true, true, true, true, false] rfl rfl (by kernel_rfl) (fun _ _ _ h => h) (Or.inl ⟨by rfl, ?_⟩) ?_ ?_
      rotate_left
      · intro w'
        go_simp
        with_reducible rfl
      rotate_left
      · simp only [Act.put, List.setIfInBounds_toArray, List.set_cons_zero, List.set_cons_succ]
        rfl
      have c8 := hF.c23s (u := .slice ad4 (S.asked.length + 1) cap4)
      have f8 := hF.free2 (u := .slice ad4 (S.asked.length + 1) cap4) 23
      clear c7 f7
      refine last_ (i := 21) (N := none) #[true, true, true, true, true, true, true, true, true, true, true, true, true, true, true, true, true, true, true, true, true, true] rfl rfl (by kernel_rfl) (by decide) (fun K hK => ?_)
      go_simp
      refine hK.out _ _ ?_
      clear hK K c8 f8
      refine done_ (by kernel_rfl) ?_
      have hfin := hF.fin HLO.out
      have HF := Lib.hid hfin
      clear hF hHeld hfin
      go_wp2
      go_ret2
      exact HEND.out _ _ _ _ HF.out.1 HF.out.2
    simp only [putAll, Act.put, List.setIfInBounds_toArray, List.set_cons_zero, List.set_cons_succ] at HJ5_7_8_14_15
    refine join_ (σ := Nat × Nat × Value × Value) 7 #[true, true, true, true, true, true, true, true, true, true, true, true, true, true, true, false, false, false, false, false, false, false] (fun s => [(21, Value.slice ad2 S.asked.length cap2), (23, Value.slice (some ⟨s.1, 0, none⟩) 1 1), (24, s.2.2.1), (30, Value.slice (some ⟨s.2.1, 0, none⟩) 1 1)]) (fun s w' => NX W2 W.heap.size p S v1 (.slice ad2 S.asked.length cap2) (.slice ad3 S.opn.length cap3) x true true true false s.1 s.2.1 s.2.2.1 s.2.2.2 w') ?_ (fun HJ5_7_8_14 => ?_)
    · intro s w' hF
      have hHeld := hF.held
      refine norm_ (a' := ?_) ?_ ?_
      rotate_left
      · (try unfold Act.put); (try simp only [putAll, Act.put, List.setIfInBounds_toArray, List.set_cons_zero, List.set_cons_succ])
        rfl
      refine one_ (i := 15) (N := some 31) #[true, true, true, true, true, true, true, true, true, true, true, true, true, true, true, true, false, false, false, false, false, false] rfl rfl (by kernel_rfl) (by decide) (fun K hK => ?_)
      rw [if_pos (by rfl)]
      refine wp_row_append _ (.tmp 28) (.tmp 30) 27 rfl 0 (Nat.zero_le _) 3 i0 _ 1 8 Try.underlying27 hi hz0 hz1 hz2 rfl (by decide) (.slice ad3 S.opn.length cap3) S.opn.length (ints S.opn) rfl (hF.o0 rfl) ⟨s.2.1, 0, none⟩ 1 1 [.int .i64 x] rfl rfl (at_row (hF.r2 rfl rfl).2) (one_cell x) (by omega) (by decide) ?_
      intro v7 w7 ow7 hg7 hf7
      have hF2 := hF.app2 ow7 hg7 hf7
      refine hK.out _ _ hF2.held (fun _ => ?_)
      clear hK K
      refine norm_ (a' := ?_) ?_ ?_
      rotate_left
      · (try unfold Act.put); (try simp only [putAll, Act.put, List.setIfInBounds_toArray, List.set_cons_zero, List.set_cons_succ])
        rfl
      exact HJ5_7_8_14_15 (s.1, s.2.1, s.2.2.1, v7) _ hF2
    simp only [putAll, Act.put, List.setIfInBounds_toArray, List.set_cons_zero, List.set_cons_succ] at HJ5_7_8_14
    refine join_ (σ := Nat × Nat × Value × Value) 8 #[true, true, true, true, true, true, true, true, true, true, true, true, true, true, false, false, false, false, false, false, false, false] (fun s => [(21, Value.slice ad2 S.asked.length cap2), (23, Value.slice (some ⟨s.1, 0, none⟩) 1 1), (24, s.2.2.1)]) (fun s w' => NX W2 W.heap.size p S v1 (.slice ad2 S.asked.length cap2) (.slice ad3 S.opn.length cap3) x true true false false s.1 s.2.1 s.2.2.1 s.2.2.2 w') ?_ (fun HJ5_7_8 => ?_)
    · intro s w' hF
      have hHeld := hF.held
      refine norm_ (a' := ?_) ?_ ?_
      rotate_left
      · (try unfold Act.put); (try simp only [putAll, Act.put, List.setIfInBounds_toArray, List.set_cons_zero, List.set_cons_succ])
        rfl
      refine one_ (i := 14) (N := some 30) #[true, true, true, true, true, true, true, true, true, true, true, true, true, true, true, false, false, false, false, false, false, false] rfl rfl (by kernel_rfl) (by decide) (fun K hK => ?_)
      have hF2 := hF.build2
      refine value_ (by rfl) rfl (exec_buildInt _ x (.tmp 29) rfl rfl) ?_
      refine hK.out _ _ hF2.held (fun _ => ?_)
      clear hK K
      refine norm_ (a' := ?_) ?_ ?_
      rotate_left
      · (try unfold Act.put); (try simp only [putAll, Act.put, List.setIfInBounds_toArray, List.set_cons_zero, List.set_cons_succ])
        rfl
      exact HJ5_7_8_14 (s.1, w'.heap.size, s.2.2.1, s.2.2.2) _ hF2
    simp only [putAll, Act.put, List.setIfInBounds_toArray, List.set_cons_zero, List.set_cons_succ] at HJ5_7_8
    refine join_ (σ := Nat × Nat × Value × Value) 8 #[true, true, true, true, true, true, true, true, false, true, true, true, true, true, true, false, false, false, false, false, false, false] (fun s => [(21, Value.slice ad2 S.asked.length cap2), (23, Value.slice (some ⟨s.1, 0, none⟩) 1 1), (30, Value.slice (some ⟨s.2.1, 0, none⟩) 1 1)]) (fun s w' => NX W2 W.heap.size p S v1 (.slice ad2 S.asked.length cap2) (.slice ad3 S.opn.length cap3) x true false true false s.1 s.2.1 s.2.2.1 s.2.2.2 w') ?_ (fun HJ5_7_14 => ?_)
    · intro s w' hF
      have hHeld := hF.held
      refine norm_ (a' := ?_) ?_ ?_
      rotate_left
      · (try unfold Act.put); (try simp only [putAll, Act.put, List.setIfInBounds_toArray, List.set_cons_zero, List.set_cons_succ])
        rfl
      refine one_ (i := 8) (N := some 24) #[true, true, true, true, true, true, true, true, true, true, true, true, true, true, true, false, false, false, false, false, false, false] rfl rfl (by kernel_rfl) (by decide) (fun K hK => ?_)
      rw [if_pos (by rfl)]
      refine wp_row_append _ (.tmp 21) (.tmp 23) 27 rfl 0 (Nat.zero_le _) 3 i0 _ 1 8 Try.underlying27 hi hz0 hz1 hz2 rfl (by decide) (.slice ad2 S.asked.length cap2) S.asked.length (ints S.asked) rfl (hF.a0 rfl) ⟨s.1, 0, none⟩ 1 1 [.int .i64 x] rfl rfl (at_row (hF.r1 rfl rfl).2) (one_cell x) (by omega) (by decide) ?_
      intro v7 w7 ow7 hg7 hf7
      have hF2 := hF.app1 ow7 hg7 hf7
      refine hK.out _ _ hF2.held (fun _ => ?_)
      clear hK K
      refine norm_ (a' := ?_) ?_ ?_
      rotate_left
      · (try unfold Act.put); (try simp only [putAll, Act.put, List.setIfInBounds_toArray, List.set_cons_zero, List.set_cons_succ])
        rfl
      exact HJ5_7_8_14 (s.1, s.2.1, v7, s.2.2.2) _ hF2
    simp only [putAll, Act.put, List.setIfInBounds_toArray, List.set_cons_zero, List.set_cons_succ] at HJ5_7_14
    refine join_ (σ := Nat × Nat × Value × Value) 9 #[true, true, true, true, true, true, true, true, false, true, true, true, true, true, false, false, false, false, false, false, false, false] (fun s => [(21, Value.slice ad2 S.asked.length cap2), (23, Value.slice (some ⟨s.1, 0, none⟩) 1 1)]) (fun s w' => NX W2 W.heap.size p S v1 (.slice ad2 S.asked.length cap2) (.slice ad3 S.opn.length cap3) x true false false false s.1 s.2.1 s.2.2.1 s.2.2.2 w') ?_ (fun HJ5_7 => ?_)
    · intro s w' hF
      have hHeld := hF.held
      refine norm_ (a' := ?_) ?_ ?_
      rotate_left
      · (try unfold Act.put); (try simp only [putAll, Act.put, List.setIfInBounds_toArray, List.set_cons_zero, List.set_cons_succ])
        rfl
      refine two_ (i := 8) (j := 14) (Ni := some 24) (Nj := some 30) #[true, true, true, true, true, true, true, true, true, true, true, true, true, true, false, false, false, false, false, false, false, false] #[true, true, true, true, true, true, true, true, false, true, true, true, true, true, true, false, false, false, false, false, false, false] rfl rfl rfl rfl (by kernel_rfl) (by decide) (by decide) (fun K hK => ?_) (fun K hK => ?_)
      · rw [if_pos (by rfl)]
        refine wp_row_append _ (.tmp 21) (.tmp 23) 27 rfl 0 (Nat.zero_le _) 3 i0 _ 1 8 Try.underlying27 hi hz0 hz1 hz2 rfl (by decide) (.slice ad2 S.asked.length cap2) S.asked.length (ints S.asked) rfl (hF.a0 rfl) ⟨s.1, 0, none⟩ 1 1 [.int .i64 x] rfl rfl (at_row (hF.r1 rfl rfl).2) (one_cell x) (by omega) (by decide) ?_
        intro v7 w7 ow7 hg7 hf7
        have hF2 := hF.app1 ow7 hg7 hf7
        refine hK.out _ _ hF2.held (fun _ => ?_)
        clear hK K
        refine norm_ (a' := ?_) ?_ ?_
        rotate_left
        · (try unfold Act.put); (try simp only [putAll, Act.put, List.setIfInBounds_toArray, List.set_cons_zero, List.set_cons_succ])
          rfl
        exact HJ5_7_8 (s.1, s.2.1, v7, s.2.2.2) _ hF2
      · have hF2 := hF.build2
        refine value_ (by rfl) rfl (exec_buildInt _ x (.tmp 29) rfl rfl) ?_
        refine hK.out _ _ hF2.held (fun _ => ?_)
        clear hK K
        refine norm_ (a' := ?_) ?_ ?_
        rotate_left
        · (try unfold Act.put); (try simp only [putAll, Act.put, List.setIfInBounds_toArray, List.set_cons_zero, List.set_cons_succ])
          rfl
        exact HJ5_7_14 (s.1, w'.heap.size, s.2.2.1, s.2.2.2) _ hF2
    simp only [putAll, Act.put, List.setIfInBounds_toArray, List.set_cons_zero, List.set_cons_succ] at HJ5_7
    refine join_ (σ := Nat × Nat × Value × Value) 9 #[true, true, true, true, true, true, true, false, false, true, true, true, true, true, true, false, false, false, false, false, false, false] (fun s => [(21, Value.slice ad2 S.asked.length cap2), (30, Value.slice (some ⟨s.2.1, 0, none⟩) 1 1)]) (fun s w' => NX W2 W.heap.size p S v1 (.slice ad2 S.asked.length cap2) (.slice ad3 S.opn.length cap3) x false false true false s.1 s.2.1 s.2.2.1 s.2.2.2 w') ?_ (fun HJ5_14 => ?_)
    · intro s w' hF
      have hHeld := hF.held
      refine norm_ (a' := ?_) ?_ ?_
      rotate_left
      · (try unfold Act.put); (try simp only [putAll, Act.put, List.setIfInBounds_toArray, List.set_cons_zero, List.set_cons_succ])
        rfl
      refine one_ (i := 7) (N := some 23) #[true, true, true, true, true, true, true, true, false, true, true, true, true, true, true, false, false, false, false, false, false, false] rfl rfl (by kernel_rfl) (by decide) (fun K hK => ?_)
      have hF2 := hF.build1
      refine value_ (by rfl) rfl (exec_buildInt _ x (.tmp 22) rfl rfl) ?_
      refine hK.out _ _ hF2.held (fun _ => ?_)
      clear hK K
      refine norm_ (a' := ?_) ?_ ?_
      rotate_left
      · (try unfold Act.put); (try simp only [putAll, Act.put, List.setIfInBounds_toArray, List.set_cons_zero, List.set_cons_succ])
        rfl
      exact HJ5_7_14 (w'.heap.size, s.2.1, s.2.2.1, s.2.2.2) _ hF2
    simp only [putAll, Act.put, List.setIfInBounds_toArray, List.set_cons_zero, List.set_cons_succ] at HJ5_14
    refine join_ (σ := Nat × Nat × Value × Value) 9 #[true, true, true, true, true, false, true, true, false, true, true, true, true, true, true, false, false, false, false, false, false, false] (fun s => [(23, Value.slice (some ⟨s.1, 0, none⟩) 1 1), (30, Value.slice (some ⟨s.2.1, 0, none⟩) 1 1)]) (fun s w' => NX W2 W.heap.size p S v1 (.slice ad2 S.asked.length cap2) (.slice ad3 S.opn.length cap3) x true false true false s.1 s.2.1 s.2.2.1 s.2.2.2 w') ?_ (fun HJ7_14 => ?_)
    · intro s w' hF
      have hHeld := hF.held
      refine norm_ (a' := ?_) ?_ ?_
      rotate_left
      · (try unfold Act.put); (try simp only [putAll, Act.put, List.setIfInBounds_toArray, List.set_cons_zero, List.set_cons_succ])
        rfl
      refine one_ (i := 5) (N := some 21) #[true, true, true, true, true, true, true, true, false, true, true, true, true, true, true, false, false, false, false, false, false, false] rfl rfl (by kernel_rfl) (by decide) (fun K hK => ?_)
      have c7 := hF.c22
      go_simp
      clear c7
      refine hK.out _ _ hF.held (fun _ => ?_)
      clear hK K
      refine norm_ (a' := ?_) ?_ ?_
      rotate_left
      · (try unfold Act.put); (try simp only [putAll, Act.put, List.setIfInBounds_toArray, List.set_cons_zero, List.set_cons_succ])
        rfl
      exact HJ5_7_14 s _ hF
    simp only [putAll, Act.put, List.setIfInBounds_toArray, List.set_cons_zero, List.set_cons_succ] at HJ7_14
    refine join_ (σ := Nat × Nat × Value × Value) 10 #[true, true, true, true, true, true, true, false, false, true, true, true, true, true, false, false, false, false, false, false, false, false] (fun s => [(21, Value.slice ad2 S.asked.length cap2)]) (fun s w' => NX W2 W.heap.size p S v1 (.slice ad2 S.asked.length cap2) (.slice ad3 S.opn.length cap3) x false false false false s.1 s.2.1 s.2.2.1 s.2.2.2 w') ?_ (fun HJ5 => ?_)
    · intro s w' hF
      have hHeld := hF.held
      refine norm_ (a' := ?_) ?_ ?_
      rotate_left
      · (try unfold Act.put); (try simp only [putAll, Act.put, List.setIfInBounds_toArray, List.set_cons_zero, List.set_cons_succ])
        rfl
      refine two_ (i := 7) (j := 14) (Ni := some 23) (Nj := some 30) #[true, true, true, true, true, true, true, true, false, true, true, true, true, true, false, false, false, false, false, false, false, false] #[true, true, true, true, true, true, true, false, false, true, true, true, true, true, true, false, false, false, false, false, false, false] rfl rfl rfl rfl (by kernel_rfl) (by decide) (by decide) (fun K hK => ?_) (fun K hK => ?_)
      · have hF2 := hF.build1
        refine value_ (by rfl) rfl (exec_buildInt _ x (.tmp 22) rfl rfl) ?_
        refine hK.out _ _ hF2.held (fun _ => ?_)
        clear hK K
        refine norm_ (a' := ?_) ?_ ?_
        rotate_left
        · (try unfold Act.put); (try simp only [putAll, Act.put, List.setIfInBounds_toArray, List.set_cons_zero, List.set_cons_succ])
          rfl
        exact HJ5_7 (w'.heap.size, s.2.1, s.2.2.1, s.2.2.2) _ hF2
      · have hF2 := hF.build2
        refine value_ (by rfl) rfl (exec_buildInt _ x (.tmp 29) rfl rfl) ?_
        refine hK.out _ _ hF2.held (fun _ => ?_)
        clear hK K
        refine norm_ (a' := ?_) ?_ ?_
        rotate_left
        · (try unfold Act.put); (try simp only [putAll, Act.put, List.setIfInBounds_toArray, List.set_cons_zero, List.set_cons_succ])
          rfl
        exact HJ5_14 (s.1, w'.heap.size, s.2.2.1, s.2.2.2) _ hF2
    simp only [putAll, Act.put, List.setIfInBounds_toArray, List.set_cons_zero, List.set_cons_succ] at HJ5
    refine join_ (σ := Nat × Nat × Value × Value) 10 #[true, true, true, true, true, false, true, true, false, true, true, true, true, true, false, false, false, false, false, false, false, false] (fun s => [(23, Value.slice (some ⟨s.1, 0, none⟩) 1 1)]) (fun s w' => NX W2 W.heap.size p S v1 (.slice ad2 S.asked.length cap2) (.slice ad3 S.opn.length cap3) x true false false false s.1 s.2.1 s.2.2.1 s.2.2.2 w') ?_ (fun HJ7 => ?_)
    · intro s w' hF
      have hHeld := hF.held
      refine norm_ (a' := ?_) ?_ ?_
      rotate_left
      · (try unfold Act.put); (try simp only [putAll, Act.put, List.setIfInBounds_toArray, List.set_cons_zero, List.set_cons_succ])
        rfl
      refine two_ (i := 5) (j := 14) (Ni := some 21) (Nj := some 30) #[true, true, true, true, true, true, true, true, false, true, true, true, true, true, false, false, false, false, false, false, false, false] #[true, true, true, true, true, false, true, true, false, true, true, true, true, true, true, false, false, false, false, false, false, false] rfl rfl rfl rfl (by kernel_rfl) (by decide) (by decide) (fun K hK => ?_) (fun K hK => ?_)
      · have c7 := hF.c22
        go_simp
        clear c7
        refine hK.out _ _ hF.held (fun _ => ?_)
        clear hK K
        refine norm_ (a' := ?_) ?_ ?_
        rotate_left
        · (try unfold Act.put); (try simp only [putAll, Act.put, List.setIfInBounds_toArray, List.set_cons_zero, List.set_cons_succ])
          rfl
        exact HJ5_7 s _ hF
      · have hF2 := hF.build2
        refine value_ (by rfl) rfl (exec_buildInt _ x (.tmp 29) rfl rfl) ?_
        refine hK.out _ _ hF2.held (fun _ => ?_)
        clear hK K
        refine norm_ (a' := ?_) ?_ ?_
        rotate_left
        · (try unfold Act.put); (try simp only [putAll, Act.put, List.setIfInBounds_toArray, List.set_cons_zero, List.set_cons_succ])
          rfl
        exact HJ7_14 (s.1, w'.heap.size, s.2.2.1, s.2.2.2) _ hF2
    simp only [putAll, Act.put, List.setIfInBounds_toArray, List.set_cons_zero, List.set_cons_succ] at HJ7
    refine join_ (σ := Nat × Nat × Value × Value) 10 #[true, true, true, true, true, false, true, false, false, true, true, true, true, true, true, false, false, false, false, false, false, false] (fun s => [(30, Value.slice (some ⟨s.2.1, 0, none⟩) 1 1)]) (fun s w' => NX W2 W.heap.size p S v1 (.slice ad2 S.asked.length cap2) (.slice ad3 S.opn.length cap3) x false false true false s.1 s.2.1 s.2.2.1 s.2.2.2 w') ?_ (fun HJ14 => ?_)
    · intro s w' hF
      have hHeld := hF.held
      refine norm_ (a' := ?_) ?_ ?_
      rotate_left
      · (try unfold Act.put); (try simp only [putAll, Act.put, List.setIfInBounds_toArray, List.set_cons_zero, List.set_cons_succ])
        rfl
      refine two_ (i := 5) (j := 7) (Ni := some 21) (Nj := some 23) #[true, true, true, true, true, true, true, false, false, true, true, true, true, true, true, false, false, false, false, false, false, false] #[true, true, true, true, true, false, true, true, false, true, true, true, true, true, true, false, false, false, false, false, false, false] rfl rfl rfl rfl (by kernel_rfl) (by decide) (by decide) (fun K hK => ?_) (fun K hK => ?_)
      · have c7 := hF.c22
        go_simp
        clear c7
        refine hK.out _ _ hF.held (fun _ => ?_)
        clear hK K
        refine norm_ (a' := ?_) ?_ ?_
        rotate_left
        · (try unfold Act.put); (try simp only [putAll, Act.put, List.setIfInBounds_toArray, List.set_cons_zero, List.set_cons_succ])
          rfl
        exact HJ5_14 s _ hF
      · have hF2 := hF.build1
        refine value_ (by rfl) rfl (exec_buildInt _ x (.tmp 22) rfl rfl) ?_
        refine hK.out _ _ hF2.held (fun _ => ?_)
        clear hK K
        refine norm_ (a' := ?_) ?_ ?_
        rotate_left
        · (try unfold Act.put); (try simp only [putAll, Act.put, List.setIfInBounds_toArray, List.set_cons_zero, List.set_cons_succ])
          rfl
        exact HJ7_14 (w'.heap.size, s.2.1, s.2.2.1, s.2.2.2) _ hF2
    simp only [putAll, Act.put, List.setIfInBounds_toArray, List.set_cons_zero, List.set_cons_succ] at HJ14
    refine join_ (σ := Nat × Nat × Value × Value) 11 #[true, true, true, true, true, false, true, false, false, true, true, true, true, true, false, false, false, false, false, false, false, false] (fun s => []) (fun s w' => NX W2 W.heap.size p S v1 (.slice ad2 S.asked.length cap2) (.slice ad3 S.opn.length cap3) x false false false false s.1 s.2.1 s.2.2.1 s.2.2.2 w') ?_ (fun HJ0 => ?_)
    · intro s w' hF
      have hHeld := hF.held
      refine norm_ (a' := ?_) ?_ ?_
      rotate_left
      · (try unfold Act.put); (try simp only [putAll, Act.put, List.setIfInBounds_toArray, List.set_cons_zero, List.set_cons_succ])
        rfl
      refine three_ (i := 5) (j := 7) (k := 14) (Ni := some 21) (Nj := some 23) (Nk := some 30) #[true, true, true, true, true, true, true, false, false, true, true, true, true, true, false, false, false, false, false, false, false, false] #[true, true, true, true, true, false, true, true, false, true, true, true, true, true, false, false, false, false, false, false, false, false] #[true, true, true, true, true, false, true, false, false, true, true, true, true, true, true, false, false, false, false, false, false, false] rfl rfl rfl rfl rfl rfl (by kernel_rfl) (by decide) (by decide) (by decide) (fun K hK => ?_) (fun K hK => ?_) (fun K hK => ?_)
      · have c7 := hF.c22
        go_simp
        clear c7
        refine hK.out _ _ hF.held (fun _ => ?_)
        clear hK K
        refine norm_ (a' := ?_) ?_ ?_
        rotate_left
        · (try unfold Act.put); (try simp only [putAll, Act.put, List.setIfInBounds_toArray, List.set_cons_zero, List.set_cons_succ])
          rfl
        exact HJ5 s _ hF
      · have hF2 := hF.build1
        refine value_ (by rfl) rfl (exec_buildInt _ x (.tmp 22) rfl rfl) ?_
        refine hK.out _ _ hF2.held (fun _ => ?_)
        clear hK K
        refine norm_ (a' := ?_) ?_ ?_
        rotate_left
        · (try unfold Act.put); (try simp only [putAll, Act.put, List.setIfInBounds_toArray, List.set_cons_zero, List.set_cons_succ])
          rfl
        exact HJ7 (w'.heap.size, s.2.1, s.2.2.1, s.2.2.2) _ hF2
      · have hF2 := hF.build2
        refine value_ (by rfl) rfl (exec_buildInt _ x (.tmp 29) rfl rfl) ?_
        refine hK.out _ _ hF2.held (fun _ => ?_)
        clear hK K
        refine norm_ (a' := ?_) ?_ ?_
        rotate_left
        · (try unfold Act.put); (try simp only [putAll, Act.put, List.setIfInBounds_toArray, List.set_cons_zero, List.set_cons_succ])
          rfl
        exact HJ14 (s.1, w'.heap.size, s.2.2.1, s.2.2.2) _ hF2
    simp only [putAll, Act.put, List.setIfInBounds_toArray, List.set_cons_zero, List.set_cons_succ] at HJ0
    exact HJ0 (0, 0, undef, undef) _ hroot
end Go.Proofs.Ytbkcopejclcfdaa
