/- Bucket's methods: place, All, Drop. -/
import Derived.Test.YtddchhoplomjgaaBDel
import Derived.Test.YtddchhoplomjgaaBOne
import Derived.Laws.ResultCell
import Derived.WalkSpells
namespace Go.Proofs.Ytddchhoplomjgaa
open Go.RowKit Go.Proofs.YtddchhoplomjgaaW.PrintLast
set_option linter.unusedVariables false
set_option linter.unusedSimpArgs false
theorem info54p : (Try.prog.info? 54).map (fun i => (i.zero, i.size, i.bytes)) = some (some (.agg (Array.mk (.int .i64 0 :: List.replicate 20 (.int .u8 0)))), 21, 32) := by kernel_rfl
theorem below_ofB {F : Nat → Prop} {W W1 w' : World} (T0 : Turns (fun _ => False) W W1) (T1 : Turns F W1 w') (hF : ∀ k, k < W.heap.size → ¬ F k) : Below W.heap.size W w' :=
  ⟨T1.os.trans T0.os, T1.tape.trans T0.tape, T1.output.trans T0.output, Nat.le_trans T0.size T1.size, fun k hk => (T1.block k (Nat.lt_of_lt_of_le hk T0.size) (hF k hk)).trans (T0.block k hk (fun h => h))⟩
theorem Reads.noneB {W : World} {xs : List Value} (h : Reads W none xs) : xs = [] := by
  cases xs with
  | nil => rfl
  | cons x l =>
    obtain ⟨b, off, h2, _⟩ := h 0 x rfl
    cases h2
/-- a copy of a row -/
def ClonedB (W : World) (e size n : Nat) (xs : List Value) (r : Ending) (W' : World) : Prop :=
  ∃ ad cap, r = .returned (.slice ad n cap) ∧ W'.ownsRow W.heap.size e size (.slice ad n cap) n xs ∧ Below W.heap.size W W'
theorem clone42_nil (W : World) : Calls Try.prog 42 #[.slice none 0 0] W fun e W' => e = .returned (.slice none 0 0) ∧ W = W' := by
  have hq := fun w : World => Lib.run_eql_slice_nil (P := Try.prog) w 48 54 none 0 0 0 0 Try.underlying48
  go_enter Try.func42, Try.ntmps42
  go_wp2
  go_ret
  exact ⟨rfl, rfl⟩
set_option maxHeartbeats 400000 in
theorem clone42_some (W : World) (a : Addr) (n cap : Nat) (xs : List Value) (hl : xs.length = n * 21) (hn : n ≤ 1000000000) (hx : Reads W (some a) xs) (h1 : ∀ u ∈ xs, u.oneCell' = true) :
    Calls Try.prog 42 #[.slice (some a) n cap] W (ClonedB W 54 21 n xs) := by
  have hq := fun w : World => Lib.run_eql_slice_nil (P := Try.prog) w 48 54 (some a) n cap 0 0 Try.underlying48
  obtain ⟨i0, hi, hz0, hz1, hz2⟩ := info_parts info54p
  have ow := World.ownsRow_made (base := W.heap.size) (e := 54) (size := 21) W #[] 0 (Nat.le_refl _) (by decide) rfl
  have hx' : Reads (W.alloc (.cells #[] 54)) (some a) xs := hx.below ((Below.refl _ _).alloc (Nat.le_refl _) _)
  have T0 := (Turns.refl (fun _ => False) W).alloc (.cells #[] 54)
  go_enter Try.func42, Try.ntmps42
  go_wp2_with (at_builtin; refine wpList_row_append_any _ rfl (.tmp 5) (.tmp 6) 48 rfl W.heap.size (by simp) 54 i0 _ 21 32 Try.underlying48 hi hz0 hz1 hz2 rfl (by decide) (.slice (some ⟨W.heap.size, 0, none⟩) 0 0) 0 [] rfl ow (some a) n cap xs rfl hl hx' h1 (by omega) (by decide) (fun v' w' ow' hg' hf' => ?_))
  simp only [Nat.zero_add, List.nil_append] at ow'
  obtain ⟨ad', cap', rfl⟩ := slice_of_own ow'
  have hb : Below W.heap.size W w' := below_ofB T0 hg' (fun k hk h => by simp [Value.ownBlock] at h; omega)
  have HO := Lib.hid ow'
  clear ow' hg' hf' hq hi hz0 hz1 hz2 ow hx' hx T0
  go_wp2
  go_ret
  exact ⟨_, _, rfl, HO.out, hb⟩
theorem clone42_any (W : World) (A : Option Addr) (n cap : Nat) (xs : List Value) (hl : xs.length = n * 21) (hn : n ≤ 1000000000) (hx : Reads W A xs) (hA : A = none → cap = 0) (h1 : ∀ u ∈ xs, u.oneCell' = true) :
    Calls Try.prog 42 #[.slice A n cap] W (ClonedB W 54 21 n xs) := by
  cases A with
  | none =>
    obtain rfl := hx.noneB
    obtain rfl : n = 0 := by simp at hl; omega
    obtain rfl := hA rfl
    exact (clone42_nil W).mono fun e W' ⟨he, hw⟩ => ⟨none, 0, he, World.ownsRow_nil _ _ _ _, hw ▸ Below.refl _ _⟩
  | some a => exact clone42_some W a n cap xs hl hn hx h1

/-- a bucket, as it lies in the world -/
structure BO (W : World) (p : Nat) (ad : Option Addr) (cap : Nat) (l : List Con) : Prop where
  blk : W.heap[p]? = some (.cells #[.slice ad l.length cap] 50 (0, 0))
  own : W.ownsRow 0 54 21 (.slice ad l.length cap) l.length (cons l)
  ok : Oks l
theorem BO.keep {F : Nat → Prop} {W W' : World} {p : Nat} {ad : Option Addr} {cap : Nat} {l : List Con} (h : BO W p ad cap l) (T : Turns F W W') (hp : ¬ F p) (ho : ∀ k, (Value.slice ad l.length cap).ownBlock = some k → ¬ F k) : BO W' p ad cap l :=
  ⟨T.keep h.blk hp, T.own h.own ho, h.ok⟩
theorem BO.new (W : World) : BO (W.alloc (.cells #[.slice none 0 0] 50)) W.heap.size none 0 [] :=
  ⟨heap_alloc_new W _, World.ownsRow_nil _ _ _ _, fun c h => by simp at h⟩
set_option maxHeartbeats 400000 in
theorem place_any (W : World) (p : Nat) (ad : Option Addr) (cap : Nat) (l : List Con) (peer : Int) (h : BO W p ad cap l) (hl : l.length ≤ 1000000) :
    Calls Try.prog 40 #[.pointer (some ⟨p, 0, none⟩), .int .i64 peer] W fun e W' => e = .returned (.int .i64 (idxI peer l)) ∧ Below W.heap.size W W' := by
  have c0 := cell_of_blk (i := 0) h.blk
  simp at c0
  have hlt := lt_of_block h.blk
  have hb0 := (Below.refl W.heap.size W).alloc (Nat.le_refl _) (.cells #[.int .i64 peer] 3)
  have HI := Lib.hid (idx_any (W.alloc (.cells #[.int .i64 peer] 3)) ad l.length cap l rfl hl h.ok ((Reads.of_own h.own).below hb0) W.heap.size peer (by rw [World.cell?_alloc_new]; rfl))
  have hmf : ∀ (fn : Fn) (first cap : Array Value) (w : World), (Instr.makeFunc fn first cap).run Try.prog w = .ok (.func fn first cap) w := fun _ _ _ _ => rfl
  clear h
  go_enter Try.func40, Try.ntmps40
  go_wp2_with fail
  refine HI.out.mono ?_
  rintro e w1 ⟨rfl, hb1⟩
  have HB := Lib.hid (hb0.trans (hb1.mono hb0.size))
  clear hb1 hb0
  go_wp2
  go_ret
  exact ⟨rfl, HB.out⟩
theorem ball_any (W : World) (p : Nat) (ad : Option Addr) (cap : Nat) (l : List Con) (h : BO W p ad cap l) (hl : l.length ≤ 1000000) :
    Calls Try.prog 23 #[.pointer (some ⟨p, 0, none⟩)] W (ClonedB W 54 21 l.length (cons l)) := by
  have c0 := cell_of_blk (i := 0) h.blk
  simp at c0
  have HC := Lib.hid (clone42_any W ad l.length cap (cons l) (cons_length h.ok) (by omega) (Reads.of_own h.own) (fun e => by
    subst e
    rcases h.own.2 with ⟨h2, _⟩ | ⟨g, c, cur, h2, _⟩
    · injection h2
    · injection h2 with h3; cases h3) (cons_one h.ok))
  clear h
  go_enter Try.func23, Try.ntmps23
  go_wp2_with fail
  refine HC.out.mono ?_
  rintro e w1 ⟨ad', cap', rfl, ho, hb⟩
  have HO := Lib.hid ho
  have HB := Lib.hid hb
  clear ho hb
  go_wp2
  go_ret
  exact ⟨_, _, rfl, HO.out, HB.out⟩
/-- Drop: the first of that peer goes -/
def dropP (peer : Int) (l : List Con) : List Con := match idxP peer l with
  | none => l
  | some i => l.eraseIdx i
def BOPost (W : World) (p : Nat) (v r : Value) (l : List Con) (e : Ending) (W' : World) : Prop :=
  e = .returned r ∧ ∃ ad' cap', BO W' p ad' cap' l ∧ Turns (fun k => k = p ∨ v.ownBlock = some k) W W' ∧ Fresh W v (.slice ad' l.length cap')
theorem Oks.erase {l : List Con} (h : Oks l) (i : Nat) : Oks (l.eraseIdx i) := fun c hc => h c (List.mem_of_mem_eraseIdx hc)
set_option maxHeartbeats 1000000 in
theorem drop_any (W : World) (p : Nat) (ad : Option Addr) (cap : Nat) (l : List Con) (peer : Int) (h : BO W p ad cap l) (hl : l.length ≤ 1000000) :
    Calls Try.prog 24 #[.pointer (some ⟨p, 0, none⟩), .int .i64 peer] W (BOPost W p (.slice ad l.length cap) (.bool (idxP peer l).isSome) (dropP peer l)) := by
  have c0 := cell_of_blk (i := 0) h.blk
  have f0 := free_of_blk (i := 0) h.blk
  simp at c0
  have hlt := lt_of_block h.blk
  have HP := place_any W p ad cap l peer h hl
  have HB := Lib.hid h
  clear h
  rcases hx : idxP peer l with _ | i
  · have hi : idxI peer l = -1 := by unfold idxI; rw [hx]
    have hd : dropP peer l = l := by unfold dropP; rw [hx]
    rw [hi] at HP
    have HP := Lib.hid HP
    have HD := Lib.hid hd
    clear hx hi hd
    go_enter Try.func24, Try.ntmps24
    go_wp2_with fail
    refine HP.out.mono ?_
    rintro e w1 ⟨rfl, hb1⟩
    have HB1 := Lib.hid hb1
    clear hb1
    go_wp2
    go_ret
    rw [HD.out]
    exact ⟨rfl, ad, cap, HB.out.keep (Turns.of_below HB1.out (fun _ => False)) (fun h => h) (fun _ _ h => h), Turns.of_below HB1.out _, Fresh.refl _ _⟩
  · have hi : idxI peer l = i := by unfold idxI; rw [hx]
    have hd : dropP peer l = l.eraseIdx i := by unfold dropP; rw [hx]
    obtain ⟨hil, _, _⟩ := idxP_spec hx
    rw [hi] at HP
    have HP := Lib.hid HP
    have HD := Lib.hid hd
    clear hx hi hd
    obtain ⟨g, rfl, _⟩ := own_some HB.out.own (fun e => by injection e with _ e2 _; omega)
    obtain ⟨m, hm⟩ : ∃ m, l.length = m + 1 := ⟨l.length - 1, by omega⟩
    have HM := Lib.hid hm
    rw [hm] at c0 hl hil
    clear hm
    go_enter Try.func24, Try.ntmps24
    go_wp2_with fail
    refine HP.out.mono ?_
    rintro e w1 ⟨rfl, hb1⟩
    have hB1 := HB.out.keep (Turns.of_below hb1 (fun _ => False)) (fun h => h) (fun _ _ h => h)
    have c1 := hb1.cell (p := ⟨p, 0, none⟩) hlt
    rw [c0] at c1
    have HB1 := Lib.hid hb1
    have own1 := hB1.own
    rw [HM.out] at own1
    have HDEL := Lib.hid (del_any w1 0 g m cap i l HM.out.symm (by omega) HB.out.ok (by omega) own1)
    have HBB := Lib.hid hB1
    clear hb1 own1 hB1
    go_wp2_with fail
    refine HDEL.out.mono ?_
    rintro e w2 ⟨rfl, ow2, T2⟩
    have b1 := HBB.out.blk
    rw [HM.out] at b1
    have hne : ¬ p = g := fun e => own_ne HBB.out.own HBB.out.blk (by decide) (by rw [e]; rfl)
    have b2 := T2.keep b1 hne
    have f2 := free_of_blk (i := 0) b2
    have c2 := cell_of_blk (i := 0) b2
    simp at c2
    have b3 := blk_setCell b2 0 (.slice (some ⟨g, 0, none⟩) m cap)
    simp at b3
    have ow3 := ownsRow_setCell_other (a := ⟨p, 0, none⟩) ow2 (fun e => hne (by injection e with e; exact e.symm)) (.slice (some ⟨g, 0, none⟩) m cap)
    have hel : (l.eraseIdx i).length = m := by rw [List.length_eraseIdx_of_lt (by rw [HM.out]; exact hil), HM.out]; rfl
    have T3 := Turns.setCell (p := ⟨p, 0, none⟩) ((Turns.of_below HB1.out (fun k => k = p ∨ (Value.slice (some ⟨g, 0, none⟩) l.length cap).ownBlock = some k)).trans (T2.mono (fun k _ hk => .inr (by rw [hk]; rfl)))) (.inr (.inl rfl)) (.slice (some ⟨g, 0, none⟩) m cap)
    have HF := Lib.hid (show BOPost W p (.slice (some ⟨g, 0, none⟩) l.length cap) (.bool true) (dropP peer l) (.returned (.bool true)) (w2.setCell ⟨p, 0, none⟩ (.slice (some ⟨g, 0, none⟩) m cap)) from by
      rw [HD.out]
      refine ⟨rfl, some ⟨g, 0, none⟩, cap, ⟨by rw [hel]; exact b3, by rw [hel]; exact ow3, HB.out.ok.erase i⟩, T3, .inl rfl⟩)
    clear b1 b2 b3 ow2 ow3 T2 T3 hel c1
    go_wp2
    go_ret
    exact HF.out
end Go.Proofs.Ytddchhoplomjgaa
