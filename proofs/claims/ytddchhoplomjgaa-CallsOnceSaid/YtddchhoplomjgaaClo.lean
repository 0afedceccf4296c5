/- The closures of Take and Late, and Len. -/
import Derived.Test.YtddchhoplomjgaaAdd
import Derived.Deep.QuietTactic
import Derived.BigQuiet
import Derived.WalkSpells
import Derived.Deep.RegionHeld3
namespace Go.Proofs.Ytddchhoplomjgaa
open Go.RowKit Go.Proofs.YtddchhoplomjgaaW.PrintLast
set_option linter.unusedVariables false
set_option linter.unusedSimpArgs false
def CallR.agg (c : CallR) : Value := .agg c.cells.toArray
def isTake (tag peer : Int) (x : CallR) : Bool := x.tag == tag && x.peer == peer
def isLate (now : Int) (x : CallR) : Bool := decide (x.til < now)
set_option maxHeartbeats 400000 in
theorem take1_any (W : World) (b1 b2 : Nat) (tag peer : Int) (x : CallR) (h1 : W.cell? ⟨b1, 0, none⟩ = some (.int .i64 tag)) (h2 : W.cell? ⟨b2, 0, none⟩ = some (.int .i64 peer)) :
    Calls Try.prog 36 #[x.agg, .pointer (some ⟨b1, 0, none⟩), .pointer (some ⟨b2, 0, none⟩)] W fun e W' => e = .returned (.bool (isTake tag peer x)) ∧ Below W.heap.size W W' := by
  obtain ⟨xt, xo, xp, xu⟩ := x
  have l1 := World.block_lt_of_cell? _ _ h1
  have l2 := World.block_lt_of_cell? _ _ h2
  dsimp only at l1 l2
  unfold CallR.agg CallR.cells isTake
  by_cases ht : xt = tag
  · have ht' : (xt == tag) = true := by simpa using ht
    go_enter Try.func36, Try.ntmps36
    go_wp2
    go_ret
    exact ⟨by simp [ht'], (Below.refl _ _).alloc (Nat.le_refl _) _⟩
  · have ht' : (xt == tag) = false := by simpa using ht
    go_enter Try.func36, Try.ntmps36
    go_wp2
    go_ret
    exact ⟨by simp [ht'], (Below.refl _ _).alloc (Nat.le_refl _) _⟩
set_option maxHeartbeats 400000 in
theorem late1_any (W : World) (b1 : Nat) (now : Int) (x : CallR) (h1 : W.cell? ⟨b1, 0, none⟩ = some (.int .i64 now)) :
    Calls Try.prog 38 #[x.agg, .pointer (some ⟨b1, 0, none⟩)] W fun e W' => e = .returned (.bool (isLate now x)) ∧ Below W.heap.size W W' := by
  obtain ⟨xt, xo, xp, xu⟩ := x
  have l1 := World.block_lt_of_cell? _ _ h1
  dsimp only at l1
  unfold CallR.agg CallR.cells isLate
  go_enter Try.func38, Try.ntmps38
  go_wp2
  go_ret
  exact ⟨rfl, (Below.refl _ _).alloc (Nat.le_refl _) _⟩
set_option maxHeartbeats 400000 in
theorem len_any (W : World) (p : Nat) (ad : Option Addr) (cap : Nat) (l : List CallR) (last : Int) (h : CO W p ad cap l last) :
    Calls Try.prog 14 #[.pointer (some ⟨p, 0, none⟩)] W fun e W' => e = .returned (.int .i64 l.length) ∧ W = W' := by
  have c0 := cell_of_blk (i := 0) h.blk
  have f0 := free_of_blk (i := 0) h.blk
  simp at c0
  clear h
  go_enter Try.func14, Try.ntmps14
  go_wp2
  go_ret
  exact ⟨rfl, rfl⟩
set_option maxHeartbeats 400000 in
theorem clone37_nil (W : World) : Calls Try.prog 37 #[.slice none 0 0] W fun e W' => e = .returned (.slice none 0 0) ∧ W = W' := by
  have hq := fun w : World => Lib.run_eql_slice_nil (P := Try.prog) w 25 30 none 0 0 0 0 Try.underlying25
  go_enter Try.func37, Try.ntmps37
  go_wp2
  go_ret
  exact ⟨rfl, rfl⟩
/-- a copy of a row -/
def Copied (W : World) (e size n : Nat) (xs : List Value) (r : Ending) (W' : World) : Prop :=
  ∃ g cap, r = .returned (.slice (some ⟨g, 0, none⟩) n cap) ∧ W'.ownsRow W.heap.size e size (.slice (some ⟨g, 0, none⟩) n cap) n xs ∧ Below W.heap.size W W'
set_option maxHeartbeats 400000 in
theorem clone37_any (W : World) (a : Addr) (n cap : Nat) (xs : List Value) (hl : xs.length = n * 4) (hn : n ≤ 1000000) (hx : ∀ j u, xs[j]? = some u → W.cell? (a.add j) = some u) (h1 : ∀ u ∈ xs, u.oneCell' = true) :
    Calls Try.prog 37 #[.slice (some a) n cap] W (Copied W 30 4 n xs) := by
  have hq := fun w : World => Lib.run_eql_slice_nil (P := Try.prog) w 25 30 (some a) n cap 0 0 Try.underlying25
  obtain ⟨i0, hi, hz0, hz1, hz2⟩ := info_parts info30
  have ow := World.ownsRow_made (base := W.heap.size) (e := 30) (size := 4) W #[] 0 (Nat.le_refl _) (by decide) rfl
  have hx' : ∀ j u, xs[j]? = some u → (W.alloc (.cells #[] 30)).cell? (a.add j) = some u := fun j u hu => by
    rw [World.cell?_alloc_some _ _ _ (by rw [hx j u hu]; rfl)]; exact hx j u hu
  go_enter Try.func37, Try.ntmps37
  go_wp2_with (at_builtin; refine wpList_append_own _ rfl (.tmp 5) (.tmp 6) 25 rfl W.heap.size 30 i0 _ 4 32 Try.underlying25 hi hz0 hz1 hz2 rfl (by decide) (.slice (some ⟨W.heap.size, 0, none⟩) 0 0) 0 [] rfl ow a n cap xs rfl hl hx' h1 (by unfold maxLen; omega) (by omega) (by simp) (fun v' w' ow' hg' hnil => ?_))
  simp only [Nat.zero_add, List.nil_append] at ow'
  obtain ⟨ad', cap', rfl⟩ := slice_of_own ow'
  have hb : Below W.heap.size W w' := ((Below.refl W.heap.size W).alloc (Nat.le_refl _) _).grown hg' (by simp) (fun k hk => by simp [Value.ownBlock] at hk; omega)
  obtain ⟨g, rfl, hg⟩ := own_some ow' (fun h => by simp [h] at hnil)
  have HO := Lib.hid ow'
  clear hnil ow' hg' hq hi hz0 hz1 hz2 ow hx' hx
  go_wp2
  go_ret
  exact ⟨_, _, rfl, HO.out, hb⟩
end Go.Proofs.Ytddchhoplomjgaa
