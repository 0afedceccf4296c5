/- log's Sure and Crash. -/
import Derived.Test.YtddchhoplomjgaaLLong
import Derived.Deep.DeepCutAuto
namespace Go.Proofs.Ytddchhoplomjgaa
open Go.RowKit Go.Proofs.YtddchhoplomjgaaW.PrintLast
set_option linter.unusedVariables false
set_option linter.unusedSimpArgs false
theorem Turns.setAt2 {r : Nat} {a b : World} (h : Turns (fun k => k = r) a b) (i : Nat) (u : Value) : Turns (fun k => k = r) a (b.setCell ⟨r, i, none⟩ u) := Turns.setCell (p := ⟨r, i, none⟩) h (.inr rfl) u
theorem own_take {w : World} {B : Nat} {e : TypeId} {size n cap m : Nat} {ad : Option Addr} {xs : List Value} (h : w.ownsRow B e size (.slice ad n cap) n xs) (hm : m ≤ n) : w.ownsRow B e size (.slice ad m cap) m (xs.take (m * size)) := by
  refine ⟨by rw [List.length_take, h.1]; exact Nat.min_eq_left (Nat.mul_le_mul_right _ hm), ?_⟩
  rcases h.2 with ⟨h2, h3⟩ | ⟨g, c, cur, h2, hb, hg, hnc, hcm, hcs, ht⟩
  · injection h2 with h4 h5 h6
    subst h4 h5 h6
    have : m = 0 := by omega
    subst this
    exact .inl ⟨rfl, rfl⟩
  · injection h2 with h4 h5 h6
    subst h4 h6
    refine .inr ⟨g, cap, cur, rfl, hb, hg, Nat.le_trans hm hnc, hcm, hcs, ?_⟩
    rw [← ht, List.take_take, Nat.min_eq_left (Nat.mul_le_mul_right _ hm)]
/-- where a crash cuts -/
def crashE (sure len : Nat) (keep : Int) : Nat := sure + (max 0 (min keep ((len : Int) - sure))).toNat
/-- what a crash leaves: how many bytes -/
def crashN (b : List Int) (sure : Nat) (keep : Int) : Nat := sure + wholeN ((b.take (crashE sure b.length keep)).drop sure)
theorem crashE_le {sure len : Nat} {keep : Int} (h : sure ≤ len) : sure ≤ crashE sure len keep ∧ crashE sure len keep ≤ len := by
  unfold crashE
  omega
theorem wholeN_le (b : List Int) : wholeN b ≤ b.length := by
  induction h : b.length using Nat.strongRecOn generalizing b with
  | _ n ih =>
    rcases hn : nextP b with _ | ⟨ys, k⟩
    · rw [wholeN_none hn]; omega
    · have hk := nextP_some hn
      rw [wholeN_some hn]
      have := ih (b.drop k).length (by rw [List.length_drop]; omega) (b.drop k) rfl
      rw [List.length_drop] at this
      omega
theorem crashN_le {b : List Int} {sure : Nat} {keep : Int} (h : sure ≤ b.length) : sure ≤ crashN b sure keep ∧ crashN b sure keep ≤ b.length := by
  unfold crashN
  have h1 := wholeN_le ((b.take (crashE sure b.length keep)).drop sure)
  have h2 := crashE_le (keep := keep) h
  rw [List.length_drop, List.length_take] at h1
  omega
theorem sure_any (W : World) (p : Nat) (ad : Option Addr) (cap : Nat) (b : List Int) (sure : Int) (h : LO W p ad cap b sure) :
    Calls Try.prog 29 #[.pointer (some ⟨p, 0, none⟩)] W fun e W' => e = .returned (.tuple #[]) ∧ LO W' p ad cap b b.length ∧ Turns (fun k => k = p) W W' := by
  have c0 := cell_of_blk (i := 0) h.blk
  have c1 := cell_of_blk (i := 1) h.blk
  have f1 := free_of_blk (i := 1) h.blk
  simp at c0 c1
  have b1 := blk_setCell h.blk 1 (.int .i64 b.length)
  simp at b1
  have hne := own_ne h.own h.blk (by decide)
  have HF : Hid (LO (W.setCell ⟨p, 1, none⟩ (.int .i64 b.length)) p ad cap b b.length) := Lib.hid ⟨b1, ownsRow_setCell_other h.own hne _, h.bytes⟩
  have T := Turns.setCell (F := fun k => k = p) (p := ⟨p, 1, none⟩) (Turns.refl _ W) (.inr rfl) (.int .i64 b.length)
  clear h b1 hne
  go_enter Try.func29, Try.ntmps29
  go_wp2
  go_end0
  exact ⟨rfl, HF.out, T⟩
set_option maxHeartbeats 1000000 in
theorem crash_any (W : World) (p : Nat) (ad : Option Addr) (cap : Nat) (b : List Int) (sure : Nat) (keep : Int) (h : LO W p ad cap b sure) (hs : sure ≤ b.length) (hl : b.length ≤ 1000000000) :
    Calls Try.prog 31 #[.pointer (some ⟨p, 0, none⟩), .int .i64 keep] W fun e W' => e = .returned (.tuple #[]) ∧ LO W' p ad cap (b.take (crashN b sure keep)) (crashN b sure keep) ∧ Turns (fun k => k = p) W W' := by
  have c0 := cell_of_blk (i := 0) h.blk
  have c1 := cell_of_blk (i := 1) h.blk
  have f0 := free_of_blk (i := 0) h.blk
  have f1 := free_of_blk (i := 1) h.blk
  simp at c0 c1
  have hlt0 := lt_of_block h.blk
  have hcap := own_cap h.own
  have HB := Lib.hid h
  clear h
  go_enter Try.func31, Try.ntmps31
  go_upto_region 2 with fail
  go_cut [5] (fun s5 wx => s5 = .int .i64 (crashE sure b.length keep : Nat) ∧ wx = W)
  case first =>
    by_cases h1 : keep < 0
    · go_wp2
      all_goals (go_meet; exact ⟨congrArg (Value.int .i64) (by unfold crashE; omega), rfl⟩)
    by_cases h2 : keep ≤ (b.length : Int) - sure
    · go_wp2
      all_goals (go_meet; exact ⟨congrArg (Value.int .i64) (by unfold crashE; omega), rfl⟩)
    · go_wp2
      all_goals (go_meet; exact ⟨congrArg (Value.int .i64) (by unfold crashE; omega), rfl⟩)
  case rest =>
    obtain ⟨rfl, rfl⟩ := hcut
    have hE := crashE_le (keep := keep) hs
    have hE1 := hE.1
    have hE2 := hE.2
    have HEQ : ∃ E, crashE sure b.length keep = E := ⟨_, rfl⟩
    obtain ⟨E, hEE⟩ := HEQ
    rw [hEE] at hE1 hE2 ⊢
    have HEE := Lib.hid hEE
    clear hE hEE
    go_wp2
    go_loopw [4] (fun i wr => ∃ n : Nat, sure ≤ n ∧ n ≤ E ∧ i = .int .i64 n ∧ n + wholeN ((b.take E).drop n) = sure + wholeN ((b.take E).drop sure) ∧ Below wc.heap.size wc wr) (fun i _ => E - (intOf i).toNat)
    case atStart => exact ⟨sure, Nat.le_refl _, hE1, rfl, rfl, Below.refl _ _⟩
    case round =>
      obtain ⟨n, hn1, hn2, rfl, hn3, hbel⟩ := hrel
      have cc := hbel.cell (p := ⟨p, 0, none⟩) hlt0
      rw [c0] at cc
      have hlen : ((b.take E).drop n).length = E - n := by rw [List.length_drop, List.length_take]; omega
      have hrd : Reads wr (cutAt ad cap n 1) (bv ((b.take E).drop n)) := by
        have h1 := (Reads.of_own HB.out.own).below hbel
        have h2 := (h1.take E).cut cap n 1 (fun e => by rw [List.length_take, bv_length]; omega)
        rw [Nat.mul_one] at h2
        simpa [bv] using h2
      have HN := next_any wr (cutAt ad cap n 1) (cap - n) ((b.take E).drop n) hrd ((HB.out.bytes.take E).drop n) (by omega) (by omega)
      rw [hlen] at HN
      have HN := Lib.hid HN
      have H3 := Lib.hid hn3
      have HBel := Lib.hid hbel
      clear hrd hn3 hbel hlen
      rcases hnx : nextP ((b.take E).drop n) with _ | ⟨ys, k⟩
      · have HX := Lib.hid hnx
        clear hnx
        go_wp2_with (refine wpList_cut_both rfl 38 5 (.tmp 31) (.tmp 32) (.tmp 33) rfl 1 Try.underlying38 size5 ad b.length cap n E rfl rfl rfl hn2 (by omega) ?_)
        go_wp2_with fail
        refine HN.out.mono ?_
        rintro e w1 ⟨hb1, he⟩
        rw [HX.out] at he
        dsimp only at he
        subst he
        have hbel2 := HBel.out.trans (hb1.mono HBel.out.size)
        have ce0 := hbel2.cell (p := ⟨p, 0, none⟩) hlt0
        have ce1 := hbel2.cell (p := ⟨p, 1, none⟩) hlt0
        have fe0 := hbel2.frozen (p := ⟨p, 0, none⟩) hlt0
        have fe1 := hbel2.frozen (p := ⟨p, 1, none⟩) hlt0
        rw [c0] at ce0
        rw [c1] at ce1
        rw [f0] at fe0
        rw [f1] at fe1
        have hNn : crashN b sure keep = n := by
          have := H3.out
          rw [wholeN_none HX.out] at this
          unfold crashN
          rw [HEE.out]
          omega
        have L1 := HB.out.keep (Turns.of_below hbel2 (fun _ => False)) (fun h => h) (fun _ _ h => h)
        have b1 := blk_setCell L1.blk 0 (.slice ad n cap)
        have b2 := blk_setCell b1 1 (.int .i64 n)
        simp at b2
        have hne := own_ne L1.own L1.blk (by decide)
        have o1 := own_take L1.own (show n ≤ b.length by omega)
        rw [Nat.mul_one] at o1
        have hne2 := own_ne o1 L1.blk (by decide)
        have o2 := ownsRow_setCell_other (a := ⟨p, 1, none⟩) (ownsRow_setCell_other (a := ⟨p, 0, none⟩) o1 hne2 (.slice ad n cap)) hne2 (.int .i64 n)
        have hlt2 : (b.take n).length = n := by rw [List.length_take]; omega
        have HF : Hid (LO ((w1.setCell ⟨p, 0, none⟩ (.slice ad n cap)).setCell ⟨p, 1, none⟩ (.int .i64 n)) p ad cap (b.take n) n) := Lib.hid ⟨by rw [hlt2]; exact b2, by rw [hlt2]; simpa [bv] using o2, HB.out.bytes.take n⟩
        have T := Lib.hid (((Turns.of_below hbel2 (fun k => k = p)).setAt2 0 (.slice ad n cap)).setAt2 1 (.int .i64 n))
        have HNN := Lib.hid hNn
        clear hb1 hbel2 b1 b2 o1 o2 L1 hne hne2 hlt2 hNn HN cc c0 c1 f0 f1
        go_wp2_with (refine wpList_cut_hi rfl 38 5 (.tmp 49) (.tmp 50) rfl 1 Try.underlying38 size5 ad b.length cap n rfl rfl (by omega) ?_)
        go_wp2
        go_end0
        rw [HNN.out]
        exact ⟨rfl, HF.out, T.out⟩
      · have HX := Lib.hid hnx
        have hk := nextP_some hnx
        rw [List.length_drop, List.length_take] at hk
        have hk1 := hk.1
        have hk2 := hk.2.1
        clear hnx hk
        go_wp2_with (refine wpList_cut_both rfl 38 5 (.tmp 31) (.tmp 32) (.tmp 33) rfl 1 Try.underlying38 size5 ad b.length cap n E rfl rfl rfl hn2 (by omega) ?_)
        go_wp2_with fail
        refine HN.out.mono ?_
        rintro e w1 ⟨hb1, he⟩
        rw [HX.out] at he
        obtain ⟨ady, capy, rfl, hoy⟩ := he
        have hbel2 := Lib.hid (HBel.out.trans (hb1.mono HBel.out.size))
        clear hb1 hoy HN cc
        go_wp2
        refine ⟨⟨n + k, by omega, by omega, by go_num, ?_, hbel2.out⟩, by simp [intOf]; omega⟩
        have := H3.out
        rw [wholeN_some HX.out, List.drop_drop] at this
        omega
end Go.Proofs.Ytddchhoplomjgaa
