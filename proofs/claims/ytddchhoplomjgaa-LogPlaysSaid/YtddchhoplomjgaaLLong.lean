/- alive of log; LogLong's walk. -/
import Derived.Test.YtddchhoplomjgaaLApp
import Derived.Test.YtddchhoplomjgaaWWords
import Derived.Lib.SmallJoins
import Derived.Laws.MakeOwn
namespace Go.Proofs.Ytddchhoplomjgaa
open Go.RowKit Go.Proofs.YtddchhoplomjgaaW.PrintLast
set_option linter.unusedVariables false
set_option linter.unusedSimpArgs false
/-- a log of a law's own: its row lies in a block of I -/
def LInv (I : Nat → Prop) (p : Nat) (wr : World) (b : List Int) (sure : Int) : Prop := ∃ ad cap, LO wr p ad cap b sure ∧ (∀ k, (Value.slice ad b.length cap).ownBlock = some k → I k)
theorem lo_new (W : World) : LO (W.alloc (.cells #[.slice none 0 0, .int .i64 0] 40)) W.heap.size none 0 [] 0 :=
  ⟨heap_alloc_new W _, World.ownsRow_nil _ _ _ _, fun x h => by simp at h⟩
theorem LInv.new (W : World) (I : Nat → Prop) : LInv I W.heap.size (W.alloc (.cells #[.slice none 0 0, .int .i64 0] 40)) [] 0 :=
  ⟨none, 0, lo_new W, fun k h => by simp [Value.ownBlock] at h⟩
section
variable {F I J : Nat → Prop} {p : Nat} {W W' : World} {b : List Int} {sure : Int}
theorem LInv.keep (h : LInv I p W b sure) (T : Turns F W W') (hp : ¬ F p) (hF : ∀ k, I k → ¬ F k) : LInv I p W' b sure := by
  obtain ⟨ad, cap, h1, h2⟩ := h
  exact ⟨ad, cap, h1.keep T hp (fun k hk => hF k (h2 k hk)), h2⟩
theorem LInv.below (h : LInv I p W b sure) (hb : Below W.heap.size W W') : LInv I p W' b sure := h.keep (Turns.of_below hb (fun _ => False)) (fun h => h) (fun _ _ h => h)
theorem LInv.mono (h : LInv I p W b sure) (hI : ∀ k, I k → J k) : LInv J p W b sure := by
  obtain ⟨ad, cap, h1, h2⟩ := h
  exact ⟨ad, cap, h1, fun k hk => hI k (h2 k hk)⟩
theorem LInv.bound (h : LInv I p W b sure) : LInv (fun k => I k ∧ k < W.heap.size) p W b sure := by
  obtain ⟨ad, cap, h1, h2⟩ := h
  exact ⟨ad, cap, h1, fun k hk => ⟨h2 k hk, (h1.own.lt k hk).2⟩⟩
theorem LInv.bytes (h : LInv I p W b sure) : Bytes b := by
  obtain ⟨ad, cap, h1, h2⟩ := h
  exact h1.bytes
theorem LInv.lt (h : LInv I p W b sure) : p < W.heap.size := by
  obtain ⟨ad, cap, h1, h2⟩ := h
  exact lt_of_block h1.blk
theorem linv_len (h : LInv I p W b sure) : Calls Try.prog 19 #[.pointer (some ⟨p, 0, none⟩)] W fun e W' => e = .returned (.int .i64 b.length) ∧ W = W' := by
  obtain ⟨ad, cap, h1, h2⟩ := h
  exact llen_any W p ad cap b sure h1
theorem linv_all (h : LInv I p W b sure) (hl : b.length ≤ 1000000000) : Calls Try.prog 20 #[.pointer (some ⟨p, 0, none⟩)] W (AllPost W b) := by
  obtain ⟨ad, cap, h1, h2⟩ := h
  exact all_any W p ad cap b sure h1 hl
/-- Append, of a source that is none of the log's own blocks -/
theorem linv_append (h : LInv I p W b sure) (A : Option Addr) (c n : Nat) (xs : List Int) (hl : b.length ≤ 1000000000) (hr : Reads W A (bv xs)) (hb : Bytes xs) (hn : n = xs.length) (hx : n ≤ 65535)
    (hA : xs = [] ∨ ∀ a, A = some a → a.block ≠ p ∧ ¬ I a.block) :
    Calls Try.prog 17 #[.pointer (some ⟨p, 0, none⟩), .slice A n c] W fun e W' => e = .returned (.int .i64 0) ∧ LInv (fun k => I k ∨ W.heap.size ≤ k) p W' (b ++ packP xs) sure ∧ Turns (fun k => k = p ∨ I k) W W' := by
  obtain ⟨ad, cap, h1, h2⟩ := h
  refine (lappend_any W p ad A cap c n b xs sure h1 hl hr hb hn hx (hA.imp id fun hA a ha => ⟨(hA a ha).1, fun he => (hA a ha).2 (h2 _ he)⟩)).mono ?_
  rintro e W' ⟨he, ad', cap', g1, g2, g3⟩
  refine ⟨he, ⟨ad', cap', g1, fun k hk => ?_⟩, g2.mono (fun k _ h => h.imp id (h2 k))⟩
  rcases g3 with g3 | ⟨q, g3, g4⟩
  · rw [g3] at hk; exact .inl (h2 k hk)
  · rw [g3] at hk; injection hk with hk; exact .inr (by omega)
end
theorem reads_int {W : World} {A : Option Addr} {xs : List Int} (h : Reads W A (bv xs)) (hm : xs.length ≤ 9223372036854775807) : YtddchhoplomjgaaW.PrintWords.ReadsInt W .u8 A xs.length xs := by
  refine ⟨rfl, hm, fun h0 => ?_⟩
  obtain ⟨b, off, h1, _, _⟩ := h 0 _ (bv_get xs 0 h0)
  refine ⟨⟨b, off, none⟩, h1, fun j hj => ?_⟩
  obtain ⟨b', off', h2, _, h3⟩ := h j _ (bv_get xs j hj)
  rw [h1] at h2
  injection h2 with h2
  injection h2 with h4 h5
  subst h4 h5
  rw [Addr.add_lit, h3]
  simp [List.getD_eq_getElem?_getD, List.getElem?_eq_getElem hj]
theorem run_str (w : World) (A : Option Addr) (c : Nat) (xs : List Int) (h : Reads w A (bv xs)) (hm : xs.length ≤ 9223372036854775807) : (convert 38 9 (.slice A xs.length c)).run Try.prog w = .ok (.string (strOfNums xs)) w :=
  YtddchhoplomjgaaW.PrintWords.string_of_reads Try.underlying38 Try.underlying5 Try.underlying9 (reads_int h hm)
set_option maxHeartbeats 1000000 in
theorem lalive_any (W : World) : Calls Try.prog 16 #[] W fun e W' => e = .returned (.bool true) ∧ Below W.heap.size W W' := by
  have h0 := Lib.hid (LInv.new W (fun _ => False))
  have T0 := (Turns.refl (fun k => W.heap.size ≤ k) W).alloc (.cells #[.slice none 0 0, .int .i64 0] 40)
  go_enter Try.func16, Try.ntmps16
  go_wp2_with fail
  refine (linv_len h0.out).mono ?_
  rintro e w1 ⟨rfl, rfl⟩
  have hcv := Joins.run_convert_bytes_const_at (P := Try.prog) (W.alloc (.cells #[.slice none 0 0, .int .i64 0] 40)) 38 5 #[.int .u8 97] 1 1 (W.heap.size + 1) (by simp) Try.underlying38 Try.underlying5
  go_wp2_with fail
  refine (linv_append (b := []) (h0.out.below ((Below.refl _ _).alloc (Nat.le_refl _) (.cells #[.int .u8 97] 5 (1, 2)))) _ _ _ [97] (by simp) ?_ (by intro x hx; simp at hx; subst hx; exact ⟨by decide, by decide⟩) rfl (by decide) ?_).mono ?_
  · intro j u hu
    refine ⟨_, _, rfl, by simp, ?_⟩
    rw [Nat.zero_add, Joins.cell_alloc_mark_at _ _ _ _ _ _ (by simp), List.getElem?_toArray]; exact hu
  · refine .inr fun a ha => ?_
    injection ha with ha
    subst ha
    exact ⟨by simp, fun h => h⟩
  rintro e w2 ⟨rfl, h2, T2⟩
  have T3 := (T0.alloc (.cells #[.int .u8 97] 5 (1, 2))).trans (T2.mono (G := fun k => W.heap.size ≤ k) (fun k hk h => by rcases h with h | h; (show W.heap.size ≤ k; omega); exact h.elim))
  have h2' := Lib.hid h2
  replace T3 := Lib.hid T3
  clear T2 T0 h2 h0
  go_wp2_with fail
  refine (linv_all h2'.out (by simp [packP])).mono ?_
  rintro e w3 ⟨v, rfl, hra, hb3⟩
  have hp : allP ([] ++ packP [97]) = [[97]] := by
    have e1 : nextP ([] ++ packP [97]) = some ([97], 3) := by decide
    rw [allP_some e1]
    have e2 : nextP (([] ++ packP [97]).drop 3) = none := by decide
    rw [allP_none e2]
  rw [hp] at hra
  obtain ⟨cs, hcs, hcs2⟩ := hra.cells
  obtain ⟨ad, cap, hc0, hco⟩ := hcs2 0 (by decide)
  obtain ⟨adv, capv, hv⟩ := slice_of_own hcs
  replace hv : v = .slice adv 1 capv := hv
  subst hv
  obtain ⟨g, rfl, hg⟩ := own_some hcs (fun e => by injection e with _ e2 _; cases e2)
  have x0 := hcs.cells (g := g) rfl 0 _ hc0
  rw [Addr.add_lit, Nat.zero_add] at x0
  replace x0 : w3.cell? ⟨g, 0, none⟩ = some (.slice ad 1 cap) := x0
  have hs3 : (convert 38 9 (.slice ad 1 cap)).run Try.prog w3 = .ok (.string (strOfNums [97])) w3 := run_str w3 ad cap [97] (Reads.of_own hco) (by decide)
  have hstr : strOfNums [97] = ⟨#[97]⟩ := by decide
  rw [hstr] at hs3
  have h3 := Lib.hid (h2'.out.below hb3)
  have T4 := Lib.hid (T3.out.trans (Turns.of_below hb3 (fun k => W.heap.size ≤ k)))
  clear hcs hcs2 hc0 hco hra hp hstr hb3 h2' T3
  go_wp2_with (first | (go_at_call 18; refine (num_any _ _).mono ?_; rintro e w4 ⟨rfl, rfl⟩) | (go_at_call 19; refine (linv_len h3.out).mono ?_; rintro e w4 ⟨rfl, rfl⟩))
  go_ret
  exact ⟨rfl, T4.out.below (Nat.le_refl _) (fun k hk h => by omega)⟩
theorem nextP_pack (xs r : List Int) (h : xs.length ≤ 65535) : nextP (packP xs ++ r) = some (xs, xs.length + 2) := by
  have e : packP xs ++ r = ((xs.length / 256 : Nat) : Int) :: ((xs.length % 256 : Nat) : Int) :: (xs ++ r) := by simp [packP]
  have e1 : (((xs.length / 256 : Nat) : Int) * 256 + ((xs.length % 256 : Nat) : Int)).toNat = xs.length := by omega
  rw [e, nextP_cons, e1, if_pos (by rw [List.length_append]; omega), List.take_left]
theorem allP_pack (xs r : List Int) (h : xs.length ≤ 65535) : allP (packP xs ++ r) = xs :: allP r := by
  rw [allP_some (nextP_pack xs r h), show xs.length + 2 = (packP xs).length from by rw [packP_length]; omega, List.drop_left]
theorem allP_nil : allP [] = [] := allP_none rfl
set_option maxHeartbeats 1000000 in
theorem llong_out (W : World) (n : Int) (hg : ¬ (65000 ≤ n ∧ n ≤ 66000)) : Calls Try.prog 5 #[.int .i64 n] W fun e W' => e = .returned (.bool true) ∧ Below W.heap.size W W' := by
  by_cases h1 : n < 65000
  · clear hg
    go_enter Try.func5, Try.ntmps5
    go_wp2_with fail
    refine (lalive_any _).mono ?_
    rintro e w1 ⟨rfl, hb⟩
    go_wp2
    go_ret
    exact ⟨rfl, hb⟩
  · have h2 : 66000 < n := by omega
    clear hg
    go_enter Try.func5, Try.ntmps5
    go_wp2_with fail
    refine (lalive_any _).mono ?_
    rintro e w1 ⟨rfl, hb⟩
    go_wp2
    go_ret
    exact ⟨rfl, hb⟩
/-- bytes of a make -/
def zeroB (n : Nat) : Array Value := madeCells #[.int .u8 0] n
theorem zeroB_get (n j : Nat) (u : Value) (h : (bv (List.replicate n 0))[j]? = some u) : (zeroB n)[j]? = some u := by
  have hj : j < n := by
    have := (List.getElem?_eq_some_iff.1 h).1
    simpa [bv] using this
  simp [bv, hj] at h
  subst h
  simp [zeroB, madeCells, hj, Nat.mod_one]
theorem run_zeros (n : Nat) (h : n ≤ 1000000) (w : World) : (Instr.makeSlice 38 (.int .i64 n) (.int .i64 n)).run Try.prog w = .ok (.slice (some ⟨w.heap.size, 0, none⟩) n n) (w.alloc (.cells (zeroB n) 5)) := by
  obtain ⟨i0, hi, hz0, hz1, hz2⟩ := info_parts info5
  have hr := run_make (P := Try.prog) w 38 5 i0 _ Try.underlying38 hi hz0 .i64 .i64 (n : Int) (n : Int) (by omega) (Int.le_refl _) (by rw [hz2]; omega) (by omega)
  rw [hz1, Int.toNat_natCast, Nat.mul_one] at hr
  exact hr
theorem zeros_bytes (n : Nat) : Bytes (List.replicate n 0) := fun x hx => by
  have := List.eq_of_mem_replicate hx
  subst this
  exact ⟨by decide, by decide⟩
set_option maxRecDepth 100000 in
set_option maxHeartbeats 1000000 in
theorem llong_in (W : World) (n : Nat) (h1 : 65000 ≤ n) (h2 : n ≤ 66000) : Calls Try.prog 5 #[.int .i64 n] W fun e W' => e = .returned (.bool true) ∧ Below W.heap.size W W' := by
  have d1 : decide ((n : Int) < 65000) = false := by simp; omega
  have d2 : decide (66000 < (n : Int)) = false := by simp; omega
  have hmk := run_zeros n (by omega)
  have HN1 := Lib.hid h1
  have HN2 := Lib.hid h2
  have n0 : (0 : Int) ≤ n := by omega
  have n1 : (n : Int) ≤ 1000000 := by omega
  by_cases h3 : 65535 < n
  · have H3 := Lib.hid h3
    have d3 : decide (65535 < (n : Int)) = true := by simp; omega
    clear h1 h2 h3
    go_enter Try.func5, Try.ntmps5
    go_wp2_with fail
    refine (lalive_any _).mono ?_
    rintro e w1 ⟨rfl, hb⟩
    have h0 := Lib.hid ((LInv.new w1 (fun _ => False)).below ((Below.refl _ _).alloc (Nat.le_refl _) (.cells (zeroB n) 5)))
    go_wp2_with fail
    refine (lappend_long _ _ _ _ _ H3.out (by have := HN2.out; omega)).mono ?_
    rintro e w2 ⟨rfl, rfl⟩
    go_wp2_with (first | (go_at_call 18; refine (num_any _ _).mono ?_; rintro e w4 ⟨rfl, rfl⟩) | (go_at_call 19; refine (linv_len h0.out).mono ?_; rintro e w4 ⟨rfl, rfl⟩))
    go_ret
    exact ⟨rfl, (hb.alloc hb.size _).alloc (by simp; exact Nat.le_succ_of_le hb.size) _⟩
  · have HZ := Lib.hid (show ∀ w : World, Reads (w.alloc (.cells (zeroB n) 5)) (some ⟨w.heap.size, 0, none⟩) (bv (List.replicate n 0)) from fun w j u hu => ⟨_, _, rfl, by simp, by rw [Nat.zero_add, World.cell?_alloc_new]; exact zeroB_get n j u hu⟩)
    have hall := Lib.hid (show allP ([] ++ packP (List.replicate n 0)) = [List.replicate n 0] from by rw [List.nil_append, ← List.append_nil (packP _), allP_pack _ _ (by simp; omega), allP_nil])
    have H3 := Lib.hid h3
    have d3 : decide (65535 < (n : Int)) = false := by simp; omega
    clear h1 h2 h3
    go_enter Try.func5, Try.ntmps5
    go_wp2_with fail
    refine (lalive_any _).mono ?_
    rintro e w1 ⟨rfl, hb⟩
    have h0 := Lib.hid ((LInv.new w1 (fun _ => False)).below ((Below.refl _ _).alloc (Nat.le_refl _) (.cells (zeroB n) 5)))
    have T0 := ((Turns.refl (fun k => w1.heap.size ≤ k) w1).alloc (.cells #[.slice none 0 0, .int .i64 0] 40)).alloc (.cells (zeroB n) 5)
    go_wp2_with fail
    refine (linv_append h0.out _ _ _ (List.replicate n 0) (by simp) ?_ (zeros_bytes n) (by simp) (by have := H3.out; omega) ?_).mono ?_
    · have := HZ.out (w1.alloc (.cells #[.slice none 0 0, .int .i64 0] 40))
      rw [World.size_alloc] at this
      exact this
    · refine .inr fun a ha => ?_
      injection ha with ha
      subst ha
      exact ⟨by simp, fun h => h⟩
    rintro e w2 ⟨rfl, h2', T2⟩
    have T3 := T0.trans (T2.mono (G := fun k => w1.heap.size ≤ k) (fun k hk h => by rcases h with h | h; (show w1.heap.size ≤ k; omega); exact h.elim))
    have h2' := Lib.hid h2'
    replace T3 := Lib.hid T3
    clear T2 T0 h0
    go_wp2_with fail
    refine (linv_all h2'.out (by rw [List.nil_append, packP_length, List.length_replicate]; have := HN2.out; omega)).mono ?_
    rintro e w3 ⟨v, rfl, hra, hb3⟩
    rw [hall.out] at hra
    obtain ⟨cs, hcs, hcs2⟩ := hra.cells
    obtain ⟨ad, cap, hc0, hco⟩ := hcs2 0 (by simp)
    obtain ⟨adv, capv, hv⟩ := slice_of_own hcs
    replace hv : v = .slice adv 1 capv := hv
    subst hv
    obtain ⟨g, rfl, hg⟩ := own_some hcs (fun e => by injection e with _ e2 _; cases e2)
    have x0 := hcs.cells (g := g) rfl 0 _ hc0
    rw [Addr.add_lit, Nat.zero_add] at x0
    replace x0 : w3.cell? ⟨g, 0, none⟩ = some (.slice ad (List.replicate n (0 : Int)).length cap) := x0
    rw [List.length_replicate] at x0
    have hlen : ([] ++ packP (List.replicate n 0)).length = n + 2 := by rw [List.nil_append, packP_length, List.length_replicate]; omega
    have h3' := Lib.hid (linv_len (h2'.out.below hb3))
    rw [hlen] at h3'
    have T4 := Lib.hid (T3.out.trans (Turns.of_below hb3 (fun k => w1.heap.size ≤ k)))
    clear hcs hcs2 hc0 hco hra hlen hb3 h2' T3
    go_wp2_with (first | (go_at_call 18; refine (num_any _ _).mono ?_; rintro e w4 ⟨rfl, rfl⟩) | (go_at_call 19; refine (h3'.out).mono ?_; rintro e w4 ⟨rfl, rfl⟩))
    go_ret
    exact ⟨rfl, hb.trans ((T4.out.below (Nat.le_refl _) (fun k hk h => by omega)).mono hb.size)⟩
set_option maxRecDepth 100000 in
theorem llong_any (W : World) (n : Int) : Calls Try.prog 5 #[.int .i64 n] W fun e W' => e = .returned (.bool true) ∧ Below W.heap.size W W' := by
  by_cases h : 65000 ≤ n ∧ n ≤ 66000
  · obtain ⟨m, rfl⟩ : ∃ m : Nat, n = m := ⟨n.toNat, by omega⟩
    have a1 : 65000 ≤ m := by omega
    have a2 : m ≤ 66000 := by omega
    exact llong_in W m a1 a2
  · exact llong_out W n h
end Go.Proofs.Ytddchhoplomjgaa
