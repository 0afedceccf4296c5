/- Take's walk and Late's. -/
import Derived.Test.YtddchhoplomjgaaSplit2
import Derived.Laws.ResultCell
namespace Go.Proofs.Ytddchhoplomjgaa
open Go.RowKit Go.Proofs.YtddchhoplomjgaaW.PrintLast
set_option linter.unusedVariables false
set_option linter.unusedSimpArgs false
/-- what Take answers -/
def takeR (tag peer : Int) (l : List CallR) : CallR × Bool := match l.filter (isTake tag peer) with
  | [] => (⟨0, 0, 0, 0⟩, false)
  | x :: _ => (x, true)
/-- what a method that takes some out leaves: answer r -/
def OutPost (W : World) (p : Nat) (r : Value) (l : List CallR) (last : Int) (e : Ending) (W' : World) : Prop :=
  e = .returned r ∧ ∃ ad2 cap2, CO W' p ad2 cap2 l last ∧ (∀ k, (Value.slice ad2 l.length cap2).ownBlock = some k → W.heap.size ≤ k) ∧ Turns (fun k => k = p) W W'
theorem CO.keep {F : Nat → Prop} {W W' : World} {p : Nat} {ad : Option Addr} {cap : Nat} {l : List CallR} {last : Int} (h : CO W p ad cap l last) (T : Turns F W W') (hp : ¬ F p) (ho : ∀ k, (Value.slice ad l.length cap).ownBlock = some k → ¬ F k) : CO W' p ad cap l last :=
  ⟨T.keep h.blk hp, T.own h.own ho⟩
theorem own_base {w : World} {B : Nat} {e : TypeId} {size n : Nat} {v : Value} {xs : List Value} (h : w.ownsRow B e size v n xs) : w.ownsRow 0 e size v n xs := by
  refine ⟨h.1, ?_⟩
  rcases h.2 with hh | ⟨g, c, cur, q1, q2, q3⟩
  · exact .inl hh
  · exact .inr ⟨g, c, cur, q1, Nat.zero_le _, q3⟩
theorem Turns.setAt {r : Nat} {a b : World} (h : Turns (fun k => k = r) a b) (i : Nat) (u : Value) : Turns (fun k => k = r) a (b.setCell ⟨r, i, none⟩ u) := Turns.setCell (p := ⟨r, i, none⟩) h (.inr rfl) u
/-- four cells written one behind the other -/
theorem put4 {w : World} {r : Nat} {x0 x1 x2 x3 : Value} {t : TypeId} (h : w.heap[r]? = some (.cells #[x0, x1, x2, x3] t (0, 0))) (a b c d : Value) :
    ((((w.setCell ⟨r, 0, none⟩ a).setCell ⟨r, 1, none⟩ b).setCell ⟨r, 2, none⟩ c).setCell ⟨r, 3, none⟩ d).heap[r]? = some (.cells #[a, b, c, d] t (0, 0)) ∧
      Turns (fun k => k = r) w ((((w.setCell ⟨r, 0, none⟩ a).setCell ⟨r, 1, none⟩ b).setCell ⟨r, 2, none⟩ c).setCell ⟨r, 3, none⟩ d) := by
  have h0 := blk_setCell h 0 a
  have h1 := blk_setCell h0 1 b
  have h2 := blk_setCell h1 2 c
  have h3 := blk_setCell h2 3 d
  refine ⟨by simpa using h3, ?_⟩
  exact ((((Turns.refl (fun k => k = r) w).setAt 0 a).setAt 1 b).setAt 2 c).setAt 3 d
theorem take_fin {W w1 w2 : World} {p r : Nat} {ad2 : Option Addr} {cap2 : Nat} {l : List CallR} {last : Int} (hr0 : W.heap.size ≤ r) (hp : p < W.heap.size) (co : CO w1 p ad2 cap2 l last) (hfr : ∀ k, (Value.slice ad2 l.length cap2).ownBlock = some k → r < k)
    (T : Turns (fun k => k = p) W w1) (T2 : Turns (fun k => k = r) w1 w2) :
    ∃ ad2 cap2, CO w2 p ad2 cap2 l last ∧ (∀ k, (Value.slice ad2 l.length cap2).ownBlock = some k → W.heap.size ≤ k) ∧ Turns (fun k => k = p) W w2 := by
  refine ⟨ad2, cap2, co.keep T2 (by omega) (fun k hk h => by have := hfr k hk; omega), fun k hk => by have := hfr k hk; omega, ?_⟩
  refine ⟨T2.os.trans T.os, T2.tape.trans T.tape, T2.output.trans T.output, Nat.le_trans T.size T2.size, fun k hk hF => (T2.block k (Nat.lt_of_lt_of_le hk T.size) (by omega)).trans (T.block k hk hF)⟩
set_option maxHeartbeats 1000000 in
theorem take_none (W : World) (p : Nat) (ad : Option Addr) (cap : Nat) (l : List CallR) (last tag peer : Int) (h : CO W p ad cap l last) (hl : l.length ≤ 1000000) (hf : l.filter (isTake tag peer) = []) :
    Calls Try.prog 13 #[.pointer (some ⟨p, 0, none⟩), .int .i64 tag, .int .i64 peer] W
      (OutPost W p (.tuple #[.agg #[.int .i64 0, .int .i64 0, .int .i64 0, .int .i64 0], .bool false]) (l.filter (fun x => !isTake tag peer x)) last) := by
  have hlt0 := lt_of_block h.blk
  have T3 := (((Turns.refl (fun _ => False) W).alloc (.cells #[.int .i64 tag] 3)).alloc (.cells #[.int .i64 peer] 3)).alloc (.cells #[.int .i64 0, .int .i64 0, .int .i64 0, .int .i64 0] 30)
  have h3 := Lib.hid (h.keep T3 (fun h => h) (fun _ _ h => h))
  have t1 : (((W.alloc (.cells #[.int .i64 tag] 3)).alloc (.cells #[.int .i64 peer] 3)).alloc (.cells #[.int .i64 0, .int .i64 0, .int .i64 0, .int .i64 0] 30)).cell? ⟨W.heap.size, 0, none⟩ = some (.int .i64 tag) := by
    rw [World.cell?_alloc_lt _ _ _ (by simp; omega), World.cell?_alloc_lt _ _ _ (by simp), World.cell?_alloc_new]; rfl
  have t2 : (((W.alloc (.cells #[.int .i64 tag] 3)).alloc (.cells #[.int .i64 peer] 3)).alloc (.cells #[.int .i64 0, .int .i64 0, .int .i64 0, .int .i64 0] 30)).cell? ⟨W.heap.size + 1, 0, none⟩ = some (.int .i64 peer) := by
    rw [World.cell?_alloc_lt _ _ _ (by simp)]
    rw [World.cell?_alloc_at _ _ _ _ (by simp)]; rfl
  have t3 : (((W.alloc (.cells #[.int .i64 tag] 3)).alloc (.cells #[.int .i64 peer] 3)).alloc (.cells #[.int .i64 0, .int .i64 0, .int .i64 0, .int .i64 0] 30)).heap[W.heap.size + 1 + 1]? = some (.cells #[.int .i64 0, .int .i64 0, .int .i64 0, .int .i64 0] 30 (0, 0)) := by
    have := heap_alloc_new ((W.alloc (.cells #[.int .i64 tag] 3)).alloc (.cells #[.int .i64 peer] 3)) (.cells #[.int .i64 0, .int .i64 0, .int .i64 0, .int .i64 0] 30)
    simpa using this
  replace t1 := Lib.hid t1
  replace t2 := Lib.hid t2
  replace t3 := Lib.hid t3
  have HF := Lib.hid hf
  clear h hf
  have hmf : ∀ (fn : Fn) (first cap : Array Value) (w : World), (Instr.makeFunc fn first cap).run Try.prog w = .ok (.func fn first cap) w := fun _ _ _ _ => rfl
  go_enter Try.func13, Try.ntmps13
  go_wp2_with fail
  refine (split36_any _ p ad cap l last _ _ tag peer h3.out hl t1.out t2.out).mono ?_
  rintro e w1 ⟨ad1, cap1, ad2, cap2, rfl, ow1, co2, hfr, T4⟩
  rw [HF.out, List.length_nil] at *
  have b3 := T4.keep t3.out (by omega)
  have T := T3.mono (G := fun k => k = p) (fun _ _ h => h.elim) |>.trans T4
  have s0 := T3.size
  have hfr' : ∀ k, (Value.slice ad2 (l.filter (fun x => !isTake tag peer x)).length cap2).ownBlock = some k → W.heap.size + 1 + 1 < k := fun k hk => by have := hfr k hk; simp at this; omega
  have HFIN := fun w2 => take_fin (w2 := w2) (r := W.heap.size + 1 + 1) (by omega) hlt0 co2 hfr' T
  replace HFIN := Lib.hid HFIN
  have c0 := cell_of_blk (i := 0) b3
  have c1 := cell_of_blk (i := 1) b3
  have c2 := cell_of_blk (i := 2) b3
  have c3 := cell_of_blk (i := 3) b3
  have f0 := free_of_blk (i := 0) b3
  have f1 := free_of_blk (i := 1) b3
  have f2 := free_of_blk (i := 2) b3
  have f3 := free_of_blk (i := 3) b3
  simp at c0 c1 c2 c3
  have B3 := Lib.hid b3
  clear b3 T T3 T4 t1 t2 t3 h3 ow1 HF co2 hfr hfr'
  go_wp2
  obtain ⟨b5, T5⟩ := put4 B3.out (.int .i64 0) (.int .i64 0) (.int .i64 0) (.int .i64 0)
  revert T5 b5
  generalize ((((w1.setCell ⟨W.heap.size + 1 + 1, 0, none⟩ (.int .i64 0)).setCell ⟨W.heap.size + 1 + 1, 1, none⟩ (.int .i64 0)).setCell ⟨W.heap.size + 1 + 1, 2, none⟩ (.int .i64 0)).setCell ⟨W.heap.size + 1 + 1, 3, none⟩ (.int .i64 0)) = w5
  intro b5 T5
  clear c0 c1 c2 c3 f0 f1 f2 f3
  have c0 := cell_of_blk (i := 0) b5
  have c1 := cell_of_blk (i := 1) b5
  have c2 := cell_of_blk (i := 2) b5
  have c3 := cell_of_blk (i := 3) b5
  simp at c0 c1 c2 c3
  exact bodyPost_ret (v := .tuple #[.agg #[.int .i64 0, .int .i64 0, .int .i64 0, .int .i64 0], .bool false]) (by simp [results, Try.results13, go_sem, c0, c1, c2, c3]) rfl ⟨rfl, HFIN.out w5 T5⟩
set_option maxHeartbeats 1000000 in
theorem take_some (W : World) (p : Nat) (ad : Option Addr) (cap : Nat) (l : List CallR) (last tag peer : Int) (h : CO W p ad cap l last) (hl : l.length ≤ 1000000) (xt xo xp xu : Int) (xs : List CallR) (hf : l.filter (isTake tag peer) = ⟨xt, xo, xp, xu⟩ :: xs) :
    Calls Try.prog 13 #[.pointer (some ⟨p, 0, none⟩), .int .i64 tag, .int .i64 peer] W
      (OutPost W p (.tuple #[.agg #[.int .i64 xt, .int .i64 xo, .int .i64 xp, .int .i64 xu], .bool true]) (l.filter (fun x => !isTake tag peer x)) last) := by
  have hlt0 := lt_of_block h.blk
  have T3 := (((Turns.refl (fun _ => False) W).alloc (.cells #[.int .i64 tag] 3)).alloc (.cells #[.int .i64 peer] 3)).alloc (.cells #[.int .i64 0, .int .i64 0, .int .i64 0, .int .i64 0] 30)
  have h3 := Lib.hid (h.keep T3 (fun h => h) (fun _ _ h => h))
  have t1 : (((W.alloc (.cells #[.int .i64 tag] 3)).alloc (.cells #[.int .i64 peer] 3)).alloc (.cells #[.int .i64 0, .int .i64 0, .int .i64 0, .int .i64 0] 30)).cell? ⟨W.heap.size, 0, none⟩ = some (.int .i64 tag) := by
    rw [World.cell?_alloc_lt _ _ _ (by simp; omega), World.cell?_alloc_lt _ _ _ (by simp), World.cell?_alloc_new]; rfl
  have t2 : (((W.alloc (.cells #[.int .i64 tag] 3)).alloc (.cells #[.int .i64 peer] 3)).alloc (.cells #[.int .i64 0, .int .i64 0, .int .i64 0, .int .i64 0] 30)).cell? ⟨W.heap.size + 1, 0, none⟩ = some (.int .i64 peer) := by
    rw [World.cell?_alloc_lt _ _ _ (by simp)]
    rw [World.cell?_alloc_at _ _ _ _ (by simp)]; rfl
  have t3 : (((W.alloc (.cells #[.int .i64 tag] 3)).alloc (.cells #[.int .i64 peer] 3)).alloc (.cells #[.int .i64 0, .int .i64 0, .int .i64 0, .int .i64 0] 30)).heap[W.heap.size + 1 + 1]? = some (.cells #[.int .i64 0, .int .i64 0, .int .i64 0, .int .i64 0] 30 (0, 0)) := by
    have := heap_alloc_new ((W.alloc (.cells #[.int .i64 tag] 3)).alloc (.cells #[.int .i64 peer] 3)) (.cells #[.int .i64 0, .int .i64 0, .int .i64 0, .int .i64 0] 30)
    simpa using this
  replace t1 := Lib.hid t1
  replace t2 := Lib.hid t2
  replace t3 := Lib.hid t3
  have HF := Lib.hid hf
  clear h hf
  have hmf : ∀ (fn : Fn) (first cap : Array Value) (w : World), (Instr.makeFunc fn first cap).run Try.prog w = .ok (.func fn first cap) w := fun _ _ _ _ => rfl
  go_enter Try.func13, Try.ntmps13
  go_wp2_with fail
  refine (split36_any _ p ad cap l last _ _ tag peer h3.out hl t1.out t2.out).mono ?_
  rintro e w1 ⟨ad1, cap1, ad2, cap2, rfl, ow1, co2, hfr, T4⟩
  have hxl : xs.length ≤ 1000000 := by
    have h1 := congrArg List.length HF.out
    have h2 := List.length_filter_le (isTake tag peer) l
    simp only [List.length_cons] at h1
    omega
  rw [HF.out, List.length_cons, List.flatMap_cons] at *
  obtain ⟨g, rfl, hg⟩ := own_some ow1 (fun e => by injection e with _ e2 _; omega)
  have x0 := ow1.cells (g := g) rfl 0 (.int .i64 xt) (by simp [CallR.cells])
  have x1 := ow1.cells (g := g) rfl 1 (.int .i64 xo) (by simp [CallR.cells])
  have x2 := ow1.cells (g := g) rfl 2 (.int .i64 xp) (by simp [CallR.cells])
  have x3 := ow1.cells (g := g) rfl 3 (.int .i64 xu) (by simp [CallR.cells])
  rw [Addr.add_lit, Nat.zero_add] at x0 x1 x2 x3
  have hgr : ¬ g = W.heap.size + 1 + 1 := by simp at hg; omega
  have hz : ((xs.length : Int) + 1 == 0) = false := by rw [beq_eq_false_iff_ne]; omega
  have b3 := T4.keep t3.out (by omega)
  have T := T3.mono (G := fun k => k = p) (fun _ _ h => h.elim) |>.trans T4
  have s0 := T3.size
  have hfr' : ∀ k, (Value.slice ad2 (l.filter (fun x => !isTake tag peer x)).length cap2).ownBlock = some k → W.heap.size + 1 + 1 < k := fun k hk => by have := hfr k hk; simp at this; omega
  have HFIN := fun w2 => take_fin (w2 := w2) (r := W.heap.size + 1 + 1) (by omega) hlt0 co2 hfr' T
  replace HFIN := Lib.hid HFIN
  have c0 := cell_of_blk (i := 0) b3
  have c1 := cell_of_blk (i := 1) b3
  have c2 := cell_of_blk (i := 2) b3
  have c3 := cell_of_blk (i := 3) b3
  have f0 := free_of_blk (i := 0) b3
  have f1 := free_of_blk (i := 1) b3
  have f2 := free_of_blk (i := 2) b3
  have f3 := free_of_blk (i := 3) b3
  simp at c0 c1 c2 c3
  have B3 := Lib.hid b3
  clear b3 T T3 T4 t1 t2 t3 h3 ow1 HF co2 hfr hfr'
  go_wp2
  obtain ⟨b5, T5⟩ := put4 B3.out (.int .i64 xt) (.int .i64 xo) (.int .i64 xp) (.int .i64 xu)
  revert T5 b5
  generalize ((((w1.setCell ⟨W.heap.size + 1 + 1, 0, none⟩ (.int .i64 xt)).setCell ⟨W.heap.size + 1 + 1, 1, none⟩ (.int .i64 xo)).setCell ⟨W.heap.size + 1 + 1, 2, none⟩ (.int .i64 xp)).setCell ⟨W.heap.size + 1 + 1, 3, none⟩ (.int .i64 xu)) = w5
  intro b5 T5
  clear c0 c1 c2 c3 f0 f1 f2 f3 x0 x1 x2 x3
  have c0 := cell_of_blk (i := 0) b5
  have c1 := cell_of_blk (i := 1) b5
  have c2 := cell_of_blk (i := 2) b5
  have c3 := cell_of_blk (i := 3) b5
  simp at c0 c1 c2 c3
  exact bodyPost_ret (v := .tuple #[.agg #[.int .i64 xt, .int .i64 xo, .int .i64 xp, .int .i64 xu], .bool true]) (by simp [results, Try.results13, go_sem, c0, c1, c2, c3]) rfl ⟨rfl, HFIN.out w5 T5⟩
theorem take_any (W : World) (p : Nat) (ad : Option Addr) (cap : Nat) (l : List CallR) (last tag peer : Int) (h : CO W p ad cap l last) (hl : l.length ≤ 1000000) :
    Calls Try.prog 13 #[.pointer (some ⟨p, 0, none⟩), .int .i64 tag, .int .i64 peer] W
      (OutPost W p (.tuple #[(takeR tag peer l).1.agg, .bool (takeR tag peer l).2]) (l.filter (fun x => !isTake tag peer x)) last) := by
  unfold takeR
  rcases hf : l.filter (isTake tag peer) with _ | ⟨⟨xt, xo, xp, xu⟩, xs⟩
  · exact take_none W p ad cap l last tag peer h hl hf
  · exact take_some W p ad cap l last tag peer h hl xt xo xp xu xs hf
theorem clone37_own (W : World) (B n cap : Nat) (ad : Option Addr) (xs : List Value) (h : W.ownsRow B 30 4 (.slice ad n cap) n xs) (hn : n ≤ 1000000) (h1 : ∀ u ∈ xs, u.oneCell' = true) :
    Calls Try.prog 37 #[.slice ad n cap] W fun r W' => ∃ ad' cap', r = .returned (.slice ad' n cap') ∧ W'.ownsRow W.heap.size 30 4 (.slice ad' n cap') n xs ∧ Below W.heap.size W W' := by
  by_cases hnil : .slice ad n cap = Value.slice none 0 0
  · injection hnil with e1 e2 e3
    subst e1 e2 e3
    have hx : xs = [] := List.eq_nil_of_length_eq_zero (by simpa using h.1)
    subst hx
    exact (clone37_nil W).mono fun e W' ⟨he, hw⟩ => ⟨none, 0, he, World.ownsRow_nil _ _ _ _, hw ▸ Below.refl _ _⟩
  · obtain ⟨g, rfl, hg⟩ := own_some h hnil
    exact (clone37_any W ⟨g, 0, none⟩ n cap xs h.1 hn (h.cells rfl) h1).mono fun e W' ⟨g', c', he, ho, hb⟩ => ⟨_, _, he, ho, hb⟩
theorem cells_one (l : List CallR) : ∀ u ∈ l.flatMap CallR.cells, u.oneCell' = true := by
  intro u hu
  obtain ⟨x, _, hx⟩ := List.mem_flatMap.1 hu
  simp only [CallR.cells, List.mem_cons, List.not_mem_nil, or_false] at hx
  rcases hx with rfl | rfl | rfl | rfl <;> rfl
set_option maxHeartbeats 1000000 in
theorem late_any (W : World) (p : Nat) (ad : Option Addr) (cap : Nat) (l : List CallR) (last now : Int) (h : CO W p ad cap l last) (hl : l.length ≤ 1000000) :
    Calls Try.prog 15 #[.pointer (some ⟨p, 0, none⟩), .int .i64 now] W (SplitPost W p (isLate now) l last) := by
  have hlt0 := lt_of_block h.blk
  have T3 := (Turns.refl (fun _ => False) W).alloc (.cells #[.int .i64 now] 3)
  have h3 := Lib.hid (h.keep T3 (fun h => h) (fun _ _ h => h))
  have t1 := Lib.hid (show (W.alloc (.cells #[.int .i64 now] 3)).cell? ⟨W.heap.size, 0, none⟩ = some (.int .i64 now) from by rw [World.cell?_alloc_new]; rfl)
  clear h
  have hmf : ∀ (fn : Fn) (first cap : Array Value) (w : World), (Instr.makeFunc fn first cap).run Try.prog w = .ok (.func fn first cap) w := fun _ _ _ _ => rfl
  go_enter Try.func15, Try.ntmps15
  go_wp2_with fail
  refine (split38_any _ p ad cap l last _ now h3.out hl t1.out).mono ?_
  rintro e w1 ⟨ad1, cap1, ad2, cap2, rfl, ow1, co2, hfr, T4⟩
  have T := T3.mono (G := fun k => k = p) (fun _ _ h => h.elim) |>.trans T4
  have s0 := T3.size
  have hl2 : (l.filter (isLate now)).length ≤ 1000000 := Nat.le_trans (List.length_filter_le _ _) hl
  have ow1 := Lib.hid ow1
  have co2 := Lib.hid co2
  have hfr := Lib.hid hfr
  have T := Lib.hid T
  clear T3 T4 t1 h3
  go_wp2_with fail
  refine (clone37_own _ _ _ _ _ _ ow1.out hl2 (cells_one _)).mono ?_
  rintro e w2 ⟨ad', cap', rfl, ow', hb'⟩
  have T5 := (T.out).trans (Turns.of_below hb' (fun k => k = p))
  have HF : Hid (SplitPost W p (isLate now) l last (.returned (.slice ad' (l.filter (isLate now)).length cap')) w2) := Lib.hid ⟨ad', cap', ad2, cap2, rfl, ?_, co2.out.keep (Turns.of_below hb' (fun _ => False)) (fun h => h) (fun _ _ h => h), fun k hk => Nat.le_trans s0 (hfr.out k hk), T5⟩
  · clear T5 hb' ow' T hfr co2 ow1
    go_wp2
    go_ret
    exact HF.out
  · refine ⟨ow'.1, ?_⟩
    rcases ow'.2 with hh | ⟨g, c, cur, q1, q2, q3⟩
    · exact .inl hh
    · exact .inr ⟨g, c, cur, q1, Nat.le_trans T.out.size q2, q3⟩
end Go.Proofs.Ytddchhoplomjgaa
