/- Bucket's alive. -/
import Derived.Test.YtddchhoplomjgaaBSee
namespace Go.Proofs.Ytddchhoplomjgaa
open Go.RowKit Go.Proofs.YtddchhoplomjgaaW.PrintLast
set_option linter.unusedVariables false
set_option linter.unusedSimpArgs false
/-- a contact that has a peer and no key -/
def pCon (i : Int) : Con := ⟨i, List.replicate 20 (.int .u8 0)⟩
theorem pCon_ok (i : Int) : (pCon i).ok := ⟨rfl, fun u hu => by
  have := List.eq_of_mem_replicate hu; subst this; rfl⟩
theorem pCon_cells (i : Int) : (pCon i).cells.toArray = #[.int .i64 i, .int .u8 0, .int .u8 0, .int .u8 0, .int .u8 0, .int .u8 0, .int .u8 0, .int .u8 0, .int .u8 0, .int .u8 0, .int .u8 0, .int .u8 0, .int .u8 0, .int .u8 0, .int .u8 0, .int .u8 0, .int .u8 0, .int .u8 0, .int .u8 0, .int .u8 0, .int .u8 0] := rfl
theorem alloc_agg54 {cs : Array Value} (w : World) (h : cs.size = 21) : True := trivial
set_option maxHeartbeats 1000000 in
theorem balive_any (W : World) : Calls Try.prog 21 #[] W fun e W' => e = .returned (.bool true) ∧ Below W.heap.size W W' := by
  have hB0 := BO.new W
  have h0 : Below W.heap.size W (W.alloc (.cells #[.slice none 0 0] 50)) := (Below.refl _ _).alloc (Nat.le_refl _) _
  have HB0 := Lib.hid hB0
  have H0 := Lib.hid h0
  have HA := Lib.hid (ball_any _ _ _ _ _ hB0 (by simp))
  clear hB0 h0
  go_enter Try.func21, Try.ntmps21
  go_wp2_with fail
  refine HA.out.mono ?_
  rintro e w1 ⟨ad1, cap1, rfl, ho1, hb1⟩
  have hk1 := HB0.out.keep (Turns.of_below hb1 (fun _ => False)) (fun h => h) (fun _ _ h => h)
  have HS := Lib.hid (see_any w1 _ none 0 [] (pCon 4) hk1 (by simp) (pCon_ok 4))
  have H1 := Lib.hid (H0.out.trans (hb1.mono H0.out.size))
  have Hk1 := Lib.hid hk1
  clear hb1 hk1 ho1
  go_wp2_with fail
  refine HS.out.mono ?_
  rintro e w2 ⟨rfl, ad2, cap2, hk2, T2, F2⟩
  have HK2 := Lib.hid (show BO w2 W.heap.size ad2 cap2 [pCon 4] from hk2)
  have H2 := Lib.hid (H1.out.trans (T2.below H1.out.size (fun k hk e => by rcases e with e | e; omega; cases e)))
  clear hk2 T2 F2
  have hz : ∀ w : World, (w.alloc (.cells zArr 54)).heap[w.heap.size]? = some (.cells zArr 54 (0, 0)) := fun w => heap_alloc_new w _
  have HZ := Lib.hid hz
  clear hz
  go_wp2_with ((refine wpList_store_row _ rfl 54 (.tmp 3) (.tmp 15) rfl w2.heap.size rfl zArr rfl 54 zArr (HZ.out w2) info54 rfl zArr_one ?_))
  have TX : Turns (fun k => k = w2.heap.size) w2 ((w2.alloc (.cells zArr 54)).setRow w2.heap.size zArr) := Turns.setRow (F := fun k => k = w2.heap.size) (Turns.alloc (Turns.refl _ w2) _) (.inr rfl) zArr
  have hsz2 : W.heap.size < w2.heap.size := lt_of_block HK2.out.blk
  have hk3 := HK2.out.keep TX (by omega) (fun k hk e => by have := own_lt4 HK2.out.own hk; omega)
  have H3 := Lib.hid (H2.out.trans (TX.below H2.out.size (fun k hk e => by omega)))
  have HA3 := Lib.hid (ball_any _ _ _ _ _ hk3 (by simp))
  clear hk3 TX
  refine HA3.out.mono ?_
  rintro e w4 ⟨ad4, cap4, rfl, ho4, hb4⟩
  obtain ⟨g, rfl, _⟩ := own_some ho4 (fun e => by injection e with _ e2 _; simp at e2)
  have c4 : w4.cell? ⟨g, 0, none⟩ = some (.int .i64 4) := by
    obtain ⟨b', off', h1, _, h3⟩ := Reads.of_own ho4 0 (.int .i64 4) rfl
    injection h1 with h1; injection h1 with h4 h5; subst h4 h5; exact h3
  have H4 := Lib.hid (H3.out.trans (hb4.mono H3.out.size))
  clear ho4 hb4
  go_wp2
  go_ret
  exact ⟨rfl, H4.out⟩
end Go.Proofs.Ytddchhoplomjgaa
