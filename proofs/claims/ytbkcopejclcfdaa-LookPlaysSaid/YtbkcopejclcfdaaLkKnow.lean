/- Look's know, left, Asked, Lost. -/
import Derived.Test.YtbkcopejclcfdaaLkObj
namespace Go.Proofs.Ytbkcopejclcfdaa
open Go.RowKit Go.Proofs.YtbkcopejclcfdaaW.PrintLast Go.Proofs.Ytbkcopejclcfdaa.Sum
set_option linter.unusedVariables false
set_option linter.unusedSimpArgs false
theorem own_nil_cap {W : World} {n cap : Nat} {xs : List Value} {ad : Option Addr} (h : W.ownsRow 0 3 1 (.slice ad n cap) n xs) : ad = none → cap = 0 := by
  intro e
  subst e
  rcases h.2 with ⟨h2, _⟩ | ⟨g, c, cur, h2, _⟩
  · injection h2
  · injection h2 with h3; cases h3
/-- the closure of left -/
theorem clo74_any (W : World) (b p : Nat) (S : LS) (ad : Option Addr) (cap : Nat) (x : Int) (hl : S.asked.length ≤ 1000000) (hc : W.cell? ⟨b, 0, none⟩ = some (.pointer (some ⟨p, 0, none⟩))) (h22 : W.cell? ⟨p, 22, none⟩ = some (.slice ad S.asked.length cap)) (hr : Reads W ad (ints S.asked)) :
    Calls Try.prog 74 #[.int .i64 x, .pointer (some ⟨b, 0, none⟩)] W fun e W' => e = .returned (.bool (S.asked.contains x)) ∧ Below W.heap.size W W' := by
  have HC := Lib.hid (contains_any W ad S.asked.length cap S.asked x rfl (by omega) hr)
  generalize S.asked.contains x = r at *
  go_enter Try.func74, Try.ntmps74
  go_wp2_with fail
  refine HC.out.mono ?_
  rintro e w1 ⟨rfl, hb⟩
  have HB := Lib.hid hb
  clear hb
  go_wp2
  go_ret
  exact ⟨rfl, HB.out⟩
/-- the closure of Lost -/
theorem clo69_any (W : World) (b : Nat) (peer x : Int) (hc : W.cell? ⟨b, 0, none⟩ = some (.int .i64 peer)) :
    Calls Try.prog 69 #[.int .i64 x, .pointer (some ⟨b, 0, none⟩)] W fun e W' => e = .returned (.bool (x == peer)) ∧ Below W.heap.size W W' := by
  go_enter Try.func69, Try.ntmps69
  go_wp2
  go_ret
  exact ⟨rfl, Below.refl _ _⟩
set_option maxHeartbeats 2000000 in
theorem left_any (W : World) (p : Nat) (S : LS) (v1 v2 v3 : Value) (h : LO 88 W p S v1 v2 v3) (hl : S.known.length ≤ 1000000) (hl2 : S.asked.length ≤ 1000000) :
    Calls Try.prog 64 #[.pointer (some ⟨p, 0, none⟩)] W (ClonedI W S.left) := by
  obtain ⟨ad1, cap1, rfl⟩ := slice_of_own h.o1
  obtain ⟨ad2, cap2, rfl⟩ := slice_of_own h.o2
  have hb0 := (Below.refl W.heap.size W).alloc (Nat.le_refl _) (.cells #[.pointer (some ⟨p, 0, none⟩)] 56)
  obtain ⟨W1, hW1⟩ : ∃ W1, W.alloc (.cells #[.pointer (some ⟨p, 0, none⟩)] 56) = W1 := ⟨_, rfl⟩
  rw [hW1] at hb0
  have h1 := h.below hb0
  have hcb : W1.cell? ⟨W.heap.size, 0, none⟩ = some (.pointer (some ⟨p, 0, none⟩)) := by rw [← hW1, World.cell?_alloc_new]; rfl
  have c21 := h.c21
  have hlt := h.lt
  have hcl := Lib.hid (clone70_any W1 ad1 S.known.length cap1 S.known rfl (by omega) (Reads.of_own h1.o1) (own_nil_cap h1.o1))
  have hbl := World.block_lt_of_cell? _ _ hcb
  dsimp only at hbl
  have HW1 := Lib.hid hW1
  have HH := Lib.hid h1
  have HB0 := Lib.hid hb0
  have hmf : ∀ (fn : Fn) (first cap : Array Value) (w : World), (Instr.makeFunc fn first cap).run Try.prog w = .ok (.func fn first cap) w := fun _ _ _ _ => rfl
  have HCB := Lib.hid hcb
  clear h h1 hb0 hW1
  go_enter Try.func64, Try.ntmps64
  go_wp2_with fail
  show Calls Try.prog 70 _ (W.alloc (.cells #[.pointer (some ⟨p, 0, none⟩)] 56)) _
  rw [HW1.out]
  refine hcl.out.mono ?_
  rintro e w2 ⟨ad, cap, rfl, ho, hb⟩
  have h2 := HH.out.below hb
  have hcb2 : w2.cell? ⟨W.heap.size, 0, none⟩ = some (.pointer (some ⟨p, 0, none⟩)) := by rw [hb.cell (p := ⟨W.heap.size, 0, none⟩) hbl]; exact hcb
  have hd : Calls Try.prog 68 #[.slice ad S.known.length cap, .func (.func 74) #[] #[.pointer (some ⟨W.heap.size, 0, none⟩)]] w2 fun e W' => e = .returned (.slice ad S.left.length cap) ∧ W'.ownsRow W1.heap.size 3 1 (.slice ad S.left.length cap) S.left.length (ints S.left) ∧ Turns (fun k => (Value.slice ad S.known.length cap).ownBlock = some k) w2 W' := del74_any w2 ad S.known.length cap S.known (fun n => S.asked.contains n) W.heap.size W1.heap.size rfl (by omega) ho (fun w' T x => by
    have nf : ∀ k, k < W1.heap.size → ¬ (Value.slice ad S.known.length cap).ownBlock = some k := fun k hk e => by have := (ho.lt k e).1; omega
    have h3 := h2.keep T (fun b hb e => nf b (HH.out.foot_lt b hb) e)
    refine clo74_any w' W.heap.size p S ad2 cap2 x (by omega) ?_ h3.c22 (Reads.of_own h3.o2)
    rw [World.cell?_of_block (T.block W.heap.size (Nat.lt_of_lt_of_le hbl hb.size) (nf _ hbl))]
    exact hcb2)
  have HD := Lib.hid hd
  have HB := Lib.hid hb
  have HO := Lib.hid ho
  clear hd hb ho h2 hcb2
  go_wp2_with fail
  refine HD.out.mono ?_
  rintro e w3 ⟨rfl, ho, T⟩
  have HO3 := Lib.hid ho
  have HT := Lib.hid T
  clear ho T
  go_wp2
  go_ret
  have hlW : W.heap.size ≤ W1.heap.size := HB0.out.size
  refine ⟨ad, cap, rfl, ?_, HB0.out.trans ((HB.out.mono hlW).trans ?_)⟩
  · refine ⟨HO3.out.1, ?_⟩
    rcases HO3.out.2 with h4 | ⟨g, c, cur, h4, h5, h6⟩
    · exact .inl h4
    · exact .inr ⟨g, c, cur, h4, by omega, h6⟩
  · exact HT.out.below (Nat.le_trans hlW HB.out.size) (fun k hk e => by have := (HO.out.lt k e).1; omega)
theorem asked_any (W : World) (p : Nat) (S : LS) (v1 v2 v3 : Value) (h : LO 88 W p S v1 v2 v3) (hl2 : S.asked.length ≤ 1000000) :
    Calls Try.prog 45 #[.pointer (some ⟨p, 0, none⟩)] W (ClonedI W S.asked) := by
  obtain ⟨ad2, cap2, rfl⟩ := slice_of_own h.o2
  have c22 := h.c22
  have HC := Lib.hid (clone70_any W ad2 S.asked.length cap2 S.asked rfl (by omega) (Reads.of_own h.o2) (own_nil_cap h.o2))
  clear h
  go_enter Try.func45, Try.ntmps45
  go_wp2_with fail
  refine HC.out.mono ?_
  rintro e w1 ⟨ad', cap', rfl, ho, hb⟩
  have HO := Lib.hid ho
  have HB := Lib.hid hb
  clear ho hb
  go_wp2
  go_ret
  exact ⟨_, _, rfl, HO.out, HB.out⟩
set_option maxHeartbeats 2000000 in
theorem lost_any (W : World) (p : Nat) (S : LS) (v1 v2 v3 : Value) (peer : Int) (h : LO 88 W p S v1 v2 v3) (hl : S.opn.length ≤ 1000000) :
    Calls Try.prog 40 #[.pointer (some ⟨p, 0, none⟩), .int .i64 peer] W (LPost 88 W p v1 v2 v3 (S.lost peer) (.tuple #[])) := by
  obtain ⟨ad3, cap3, rfl⟩ := slice_of_own h.o3
  have hb0 := (Below.refl W.heap.size W).alloc (Nat.le_refl _) (.cells #[.int .i64 peer] 3)
  obtain ⟨W1, hW1⟩ : ∃ W1, W.alloc (.cells #[.int .i64 peer] 3) = W1 := ⟨_, rfl⟩
  rw [hW1] at hb0
  have h1 := h.below hb0
  have hcb : W1.cell? ⟨W.heap.size, 0, none⟩ = some (.int .i64 peer) := by rw [← hW1, World.cell?_alloc_new]; rfl
  have hbl := World.block_lt_of_cell? _ _ hcb
  dsimp only at hbl
  have c23 := h.c23
  have hlt := h.lt
  have hd := del69_any W1 ad3 S.opn.length cap3 S.opn (fun n => n == peer) W.heap.size 0 rfl (by omega) h1.o3 (fun w' T x => by
    refine clo69_any w' W.heap.size peer x ?_
    rw [World.cell?_of_block (T.block W.heap.size hbl (fun e => by have := (h.o3.lt _ e).2; omega))]
    exact hcb)
  have HD := Lib.hid hd
  have HW1 := Lib.hid hW1
  have HH := Lib.hid h1
  have HB0 := Lib.hid hb0
  have hmf : ∀ (fn : Fn) (first cap : Array Value) (w : World), (Instr.makeFunc fn first cap).run Try.prog w = .ok (.func fn first cap) w := fun _ _ _ _ => rfl
  clear h h1 hb0 hW1 hd
  go_enter Try.func40, Try.ntmps40
  go_wp2_with fail
  show Calls Try.prog 68 _ (W.alloc (.cells #[.int .i64 peer] 3)) _
  rw [HW1.out]
  refine HD.out.mono ?_
  rintro e w2 ⟨rfl, ho, T⟩
  have hf : Fresh W1 (.slice ad3 S.opn.length cap3) (.slice ad3 (keepL (fun n => n == peer) S.opn).length cap3) := .inl (by cases ad3 <;> rfl)
  have hs := HH.out.set3 (by decide) ho T hf
  have HS := Lib.hid hs
  have b2 := T.keep HH.out.blk (fun e => own_ne HH.out.o3 HH.out.blk (by decide) e)
  have c2 : w2.cell? ⟨p, 23, none⟩ = some (.slice ad3 S.opn.length cap3) := by rw [cell_of_blk b2]; exact lcells_at S.k HH.out.key.len S.self 3
  have f2 : w2.frozen? ⟨p, 23, none⟩ = false := free_of_blk b2
  clear ho T hf hs b2
  go_wp2
  go_end0
  exact ⟨rfl, _, _, _, HS.out.1, (LStep.below HB0.out).trans HS.out.2⟩
end Go.Proofs.Ytbkcopejclcfdaa
