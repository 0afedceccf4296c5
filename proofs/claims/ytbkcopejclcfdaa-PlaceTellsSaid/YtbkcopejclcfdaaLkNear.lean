/- table.Nearer. -/
import Derived.Test.YtbkcopejclcfdaaLkCmp
import Derived.Test.YtbkcopejclcfdaaKeyHeld
import Derived.Test.YtbkcopejclcfdaaKeyFarAll
import Derived.Laws.Tables
import Derived.BigQuiet
namespace Go.Proofs.Ytbkcopejclcfdaa
open Go.RowKit Go.Proofs.YtbkcopejclcfdaaW.PrintLast Go.Proofs.Ytbkcopejclcfdaa.Sum
set_option linter.unusedVariables false
set_option linter.unusedSimpArgs false
theorem exec_alloc23 {o : Oper} {a : Act} (w : World) (ho : o.op = .alloc 23) : (execOp a.eval o).run Try.prog w = .ok (.value (.pointer (some ⟨w.heap.size, 0, none⟩))) (w.alloc (.cells zero20 23)) := by
  unfold execOp
  simp only [ho]
  kernel_rfl
theorem exec_store_row {P : Program} {o : Oper} {a : Act} (w : World) (ty : TypeId) (x y : Operand) (ho : o.op = .store ty x y)
    (g : Nat) (hx : a.eval x = .pointer (some ⟨g, 0, none⟩)) (cs : Array Value) (hy : a.eval y = .agg cs) (t : TypeId) (old : Array Value) (hg : w.heap[g]? = some (.cells old t (0, 0)))
    (hi : (P.info? ty).map (·.size) = some cs.size) (hz : old.size = cs.size) (h1 : cs.all (·.oneCell') = true) : (execOp a.eval o).run P w = .ok .skip (w.setRow g cs) := by
  unfold execOp
  simp only [ho, hx, hy, Instr.storeAt, Instr.sureAddr, Sem.run_bind, Sem.run_pure, Result.andThen_ok, run_storeVar_row w g t ty old cs hg hi hz h1]
def NBS (W : World) (k a b : List Int) (w : World) : Prop := Held W (cv k) (cv a) (cv b) w
/-- the boxes, and perhaps two rows more -/
structure NB (W : World) (k a b : List Int) (fa fb : Bool) (x y : Nat) (w : World) : Prop where
  held : Held W (cv k) (cv a) (cv b) w
  a : fa = true → W.heap.size + 3 ≤ x ∧ w.heap[x]? = some (.cells zero20 23 (0, 0))
  b : fb = true → W.heap.size + 3 ≤ y ∧ w.heap[y]? = some (.cells zero20 23 (0, 0))
  ne : fa = true → fb = true → x ≠ y
theorem NB.keep {W w w' : World} {k a b : List Int} {fa fb : Bool} {x y : Nat} (h : NB W k a b fa fb x y w) (hb : Below w.heap.size w w') : NB W k a b fa fb x y w' :=
  ⟨h.held.keep hb, fun e => ⟨(h.a e).1, (hb.block x (lt_of_block (h.a e).2)).trans (h.a e).2⟩, fun e => ⟨(h.b e).1, (hb.block y (lt_of_block (h.b e).2)).trans (h.b e).2⟩, h.ne⟩
theorem NB.call {W w w' : World} {k a b : List Int} {fa fb : Bool} {x y : Nat} (h : NB W k a b fa fb x y w) (hb : Below w.heap.size w w') : NB W k a b fa fb x y w' := h.keep hb
theorem NB.drew {W w : World} {k a b : List Int} {fa fb : Bool} {x y : Nat} (h : NB W k a b fa fb x y w) : NB W k a b fa fb x y w.drew := ⟨h.held.drew, h.a, h.b, h.ne⟩
theorem NB.allocA {W w : World} {k a b : List Int} {fb : Bool} {x y : Nat} (h : NB W k a b false fb x y w) : NB W k a b true fb w.heap.size y (w.alloc (.cells zero20 23)) := by
  have h2 := h.keep ((Below.refl _ _).alloc (Nat.le_refl _) (.cells zero20 23))
  exact ⟨h2.held, fun _ => ⟨h.held.1.2, heap_alloc_new _ _⟩, h2.b, fun _ e => by have := lt_of_block (h.b e).2; omega⟩
theorem NB.allocB {W w : World} {k a b : List Int} {fa : Bool} {x y : Nat} (h : NB W k a b fa false x y w) : NB W k a b fa true x w.heap.size (w.alloc (.cells zero20 23)) := by
  have h2 := h.keep ((Below.refl _ _).alloc (Nat.le_refl _) (.cells zero20 23))
  exact ⟨h2.held, h2.a, fun _ => ⟨h.held.1.2, heap_alloc_new _ _⟩, fun e _ => by have := lt_of_block (h.a e).2; omega⟩
theorem NB.root (k a b : List Int) (W : World) : NB W k a b false false 0 0 (((W.alloc (.cells (kv k) 23)).alloc (.cells (kv a) 23)).alloc (.cells (kv b) 23)) := by
  refine ⟨⟨⟨(((Below.refl _ _).alloc (Nat.le_refl _) _).alloc (by simp) _).alloc (by simp; omega) _, by simp⟩, ?_, ?_, ?_⟩, (fun e => by cases e), (fun e => by cases e), (fun e => by cases e)⟩
  · intro j u hj
    rw [Nat.zero_add, cell_of_row _ _ j (kv k) 23 (0, 0) (by rw [heap_alloc_old _ _ (by simp; omega), heap_alloc2_old])]
    simpa [kv_cv] using hj
  · intro j u hj
    rw [Nat.zero_add, cell_of_row _ _ j (kv a) 23 (0, 0) (by rw [heap_alloc_old _ _ (by simp), heap_alloc2_new])]
    simpa [kv_cv] using hj
  · intro j u hj
    have e := heap_alloc_new ((W.alloc (.cells (kv k) 23)).alloc (.cells (kv a) 23)) (.cells (kv b) 23)
    simp only [World.size_alloc] at e
    rw [Nat.zero_add, cell_of_row _ _ j (kv b) 23 (0, 0) e]
    simpa [kv_cv] using hj
theorem NB.b1 {W w : World} {k a b : List Int} {x y : Nat} (h : NB W k a b true true x y w) {cs : Array Value} : (w.setRow x cs).heap[y]? = some (.cells zero20 23 (0, 0)) := by
  rw [setRow_other _ _ _ _ (fun e => h.ne rfl rfl e.symm)]
  exact (h.b rfl).2
theorem NB.rowA {W w : World} {k a b : List Int} {x y : Nat} (h : NB W k a b true true x y w) {c1 c2 : Array Value} : ((w.setRow x c1).setRow y c2).heap[x]? = some (.cells c1 23 (0, 0)) := by
  rw [setRow_other _ _ _ _ (fun e => h.ne rfl rfl e)]
  exact setRow_heap _ _ _ _ _ _ (h.a rfl).2
theorem NB.rowB {W w : World} {k a b : List Int} {x y : Nat} (h : NB W k a b true true x y w) {c1 c2 : Array Value} : ((w.setRow x c1).setRow y c2).heap[y]? = some (.cells c2 23 (0, 0)) := setRow_heap _ _ _ _ _ _ h.b1
theorem NB.bel {W w : World} {k a b : List Int} {x y : Nat} (h : NB W k a b true true x y w) {c1 c2 : Array Value} : Below W.heap.size W ((w.setRow x c1).setRow y c2) :=
  below_setRow (below_setRow h.held.1.1 (by have := (h.a rfl).1; omega) _) (by have := (h.b rfl).1; omega) _
set_option maxHeartbeats 4000000 in
theorem near_any (k a b : List Int) (W : World) (hk : Key20 k) (ha : Key20 a) (hb : Key20 b) :
    Calls Try.prog 55 #[.agg (kv k), .agg (kv a), .agg (kv b)] W fun e W' => e = .returned (.int .i64 (cmpL (addRow k a) (addRow k b))) ∧ Below W.heap.size W W' := by
  have HDa := Lib.hid (fun w => dist_any k a w hk.len ha.len)
  have HDb := Lib.hid (fun w => dist_any k b w hk.len hb.len)
  have hl1 : (addRow k a).length = 20 := by rw [addRow_length, hk.len]
  have hl2 : (addRow k b).length = 20 := by rw [addRow_length, hk.len]
  have hs1 : (Try.prog.info? 23).map (·.size) = some (kv (addRow k a)).size := by rw [kv_size, hl1]; exact info23
  have hs2 : (Try.prog.info? 23).map (·.size) = some (kv (addRow k b)).size := by rw [kv_size, hl2]; exact info23
  have hz1 : zero20.size = (kv (addRow k a)).size := by rw [kv_size, hl1]; rfl
  have hz2 : zero20.size = (kv (addRow k b)).size := by rw [kv_size, hl2]; rfl
  have hu := Try.underlying23
  have i1 : (Try.prog.info? 23).map (·.size) = some (cv k).length := by rw [cv_length, hk.len]; exact info23
  have i2 : (Try.prog.info? 23).map (·.size) = some (cv a).length := by rw [cv_length, ha.len]; exact info23
  have i3 : (Try.prog.info? 23).map (·.size) = some (cv b).length := by rw [cv_length, hb.len]; exact info23
  clear hk ha hb
  go_enter Try.func55, Try.ntmps55
  go_wp2
  refine start_ (n := 10) (S := NBS W k a b) (ds := [8, 9]) #[false, false, false, false, false, false, false, false, false, false] (by kernel_rfl) rfl rfl ((NB.root k a b W).held.drew) (fun hHeld => ?_)
  have hroot := (NB.root k a b W).drew
  generalize (((W.alloc (.cells (kv k) 23)).alloc (.cells (kv a) 23)).alloc (.cells (kv b) 23)).drew = W2 at *
  refine take_ (i := 0) (N := some 9) (v := .agg (cv k).toArray) (a' := ?_) #[true, false, false, false, false, false, false, false, false, false] rfl rfl (by kernel_rfl) (fun _ _ _ h => h) (yieldsIf_load_mid (by rfl) _ _ rfl _ _ rfl _ _ (fun w' s => Held.r0 s) hu rfl i1) hHeld ?_ ?_
  rotate_left
  · simp only [Act.put, List.setIfInBounds_toArray, List.set_cons_zero, List.set_cons_succ]
    rfl
  refine take_ (i := 1) (N := some 10) (v := .agg (cv a).toArray) (a' := ?_) #[true, true, false, false, false, false, false, false, false, false] rfl rfl (by kernel_rfl) (fun _ _ _ h => h) (yieldsIf_load_mid (by rfl) _ _ rfl _ _ rfl _ _ (fun w' s => Held.r1 s) hu rfl i2) hHeld ?_ ?_
  rotate_left
  · simp only [Act.put, List.setIfInBounds_toArray, List.set_cons_zero, List.set_cons_succ]
    rfl
  refine take_ (i := 3) (N := some 12) (v := .agg (cv k).toArray) (a' := ?_) #[true, true, false, true, false, false, false, false, false, false] rfl rfl (by kernel_rfl) (fun _ _ _ h => h) (yieldsIf_load_mid (by rfl) _ _ rfl _ _ rfl _ _ (fun w' s => Held.r0 s) hu rfl i1) hHeld ?_ ?_
  rotate_left
  · simp only [Act.put, List.setIfInBounds_toArray, List.set_cons_zero, List.set_cons_succ]
    rfl
  refine take_ (i := 4) (N := some 13) (v := .agg (cv b).toArray) (a' := ?_) #[true, true, false, true, true, false, false, false, false, false] rfl rfl (by kernel_rfl) (fun _ _ _ h => h) (yieldsIf_load_mid (by rfl) _ _ rfl _ _ rfl _ _ (fun w' s => Held.r2 s) hu rfl i3) hHeld ?_ ?_
  rotate_left
  · simp only [Act.put, List.setIfInBounds_toArray, List.set_cons_zero, List.set_cons_succ]
    rfl
  refine join_ (σ := Nat × Nat) 2 #[true, true, true, true, true, true, true, true, false, false] (fun s => [(11, Value.agg (kv (addRow k a))), (14, Value.agg (kv (addRow k b))), (7, Value.pointer (some ⟨s.1, 0, none⟩)), (8, Value.pointer (some ⟨s.2, 0, none⟩))]) (fun s w' => NB W k a b true true s.1 s.2 w') ?_ (fun HJ2_5_6_7 => ?_)
  · intro s w' hF
    have hHeld := hF.held
    refine norm_ (a' := ?_) ?_ ?_
    rotate_left
    · (try unfold Act.put); simp only [putAll, Act.put, List.setIfInBounds_toArray, List.set_cons_zero, List.set_cons_succ]
      rfl
    have H1 := (hF.a rfl).2
    refine last_ (i := 8) (N := none) #[true, true, true, true, true, true, true, true, true, false] rfl rfl (by kernel_rfl) (by decide) (fun K hK => ?_)
    refine skip_ (by rfl) rfl (exec_store_row _ 23 (.tmp 7) (.tmp 11) rfl s.1 rfl (kv (addRow k a)) rfl 23 zero20 (hF.a rfl).2 hs1 hz1 (kv_one _)) ?_
    refine hK.out _ _ ?_
    clear hK K
    refine last_ (i := 9) (N := none) #[true, true, true, true, true, true, true, true, true, true] rfl rfl (by kernel_rfl) (by decide) (fun K hK => ?_)
    refine skip_ (by rfl) rfl (exec_store_row _ 23 (.tmp 8) (.tmp 14) rfl s.2 rfl (kv (addRow k b)) rfl 23 zero20 hF.b1 hs2 hz2 (kv_one _)) ?_
    refine hK.out _ _ ?_
    clear hK K
    refine done_ (by kernel_rfl) ?_
    have HG := Lib.hid (hF.rowA (c1 := kv (addRow k a)) (c2 := kv (addRow k b)))
    have HH := Lib.hid (hF.rowB (c1 := kv (addRow k a)) (c2 := kv (addRow k b)))
    have HBel := Lib.hid (hF.bel (c1 := kv (addRow k a)) (c2 := kv (addRow k b)))
    clear hF hHeld H1
    generalize ((w'.setRow s.1 (kv (addRow k a))).setRow s.2 (kv (addRow k b))) = W9 at *
    go_wp2
    go_quiet ((go_at_call 73; exact Calls.quiet_of_same ((scompare_any _ _ _ _ _ hl1 hl2 (by exact HG.out) (by exact HH.out)).mono fun _ _ ⟨h1, h2⟩ => ⟨h1, h2.symm⟩)))
    go_wp2
    go_ret
    exact ⟨rfl, pw_drewN HBel.out _⟩
  simp only [putAll, Act.put, List.setIfInBounds_toArray, List.set_cons_zero, List.set_cons_succ] at HJ2_5_6_7
  refine join_ (σ := Nat × Nat) 3 #[true, true, true, true, true, true, true, false, false, false] (fun s => [(11, Value.agg (kv (addRow k a))), (14, Value.agg (kv (addRow k b))), (7, Value.pointer (some ⟨s.1, 0, none⟩))]) (fun s w' => NB W k a b true false s.1 s.2 w') ?_ (fun HJ2_5_6 => ?_)
  · intro s w' hF
    have hHeld := hF.held
    refine norm_ (a' := ?_) ?_ ?_
    rotate_left
    · (try unfold Act.put); simp only [putAll, Act.put, List.setIfInBounds_toArray, List.set_cons_zero, List.set_cons_succ]
      rfl
    refine one_ (i := 7) (N := some 8) #[true, true, true, true, true, true, true, true, false, false] rfl rfl (by kernel_rfl) (by decide) (fun K hK => ?_)
    have hF2 := hF.allocB
    refine value_ (by rfl) rfl (exec_alloc23 _ rfl) ?_
    refine hK.out _ _ hF2.held (fun _ => ?_)
    clear hK K
    refine norm_ (a' := ?_) ?_ ?_
    rotate_left
    · (try unfold Act.put); simp only [putAll, Act.put, List.setIfInBounds_toArray, List.set_cons_zero, List.set_cons_succ]
      rfl
    exact HJ2_5_6_7 (s.1, w'.heap.size) _ hF2
  simp only [putAll, Act.put, List.setIfInBounds_toArray, List.set_cons_zero, List.set_cons_succ] at HJ2_5_6
  refine join_ (σ := Nat × Nat) 3 #[true, true, true, true, true, true, false, true, false, false] (fun s => [(11, Value.agg (kv (addRow k a))), (14, Value.agg (kv (addRow k b))), (8, Value.pointer (some ⟨s.2, 0, none⟩))]) (fun s w' => NB W k a b false true s.1 s.2 w') ?_ (fun HJ2_5_7 => ?_)
  · intro s w' hF
    have hHeld := hF.held
    refine norm_ (a' := ?_) ?_ ?_
    rotate_left
    · (try unfold Act.put); simp only [putAll, Act.put, List.setIfInBounds_toArray, List.set_cons_zero, List.set_cons_succ]
      rfl
    refine one_ (i := 6) (N := some 7) #[true, true, true, true, true, true, true, true, false, false] rfl rfl (by kernel_rfl) (by decide) (fun K hK => ?_)
    have hF2 := hF.allocA
    refine value_ (by rfl) rfl (exec_alloc23 _ rfl) ?_
    refine hK.out _ _ hF2.held (fun _ => ?_)
    clear hK K
    refine norm_ (a' := ?_) ?_ ?_
    rotate_left
    · (try unfold Act.put); simp only [putAll, Act.put, List.setIfInBounds_toArray, List.set_cons_zero, List.set_cons_succ]
      rfl
    exact HJ2_5_6_7 (w'.heap.size, s.2) _ hF2
  simp only [putAll, Act.put, List.setIfInBounds_toArray, List.set_cons_zero, List.set_cons_succ] at HJ2_5_7
  refine join_ (σ := Nat × Nat) 3 #[true, true, true, true, true, false, true, true, false, false] (fun s => [(11, Value.agg (kv (addRow k a))), (7, Value.pointer (some ⟨s.1, 0, none⟩)), (8, Value.pointer (some ⟨s.2, 0, none⟩))]) (fun s w' => NB W k a b true true s.1 s.2 w') ?_ (fun HJ2_6_7 => ?_)
  · intro s w' hF
    have hHeld := hF.held
    refine norm_ (a' := ?_) ?_ ?_
    rotate_left
    · (try unfold Act.put); simp only [putAll, Act.put, List.setIfInBounds_toArray, List.set_cons_zero, List.set_cons_succ]
      rfl
    refine one_ (i := 5) (N := some 14) #[true, true, true, true, true, true, true, true, false, false] rfl rfl (by kernel_rfl) (by decide) (fun K hK => ?_)
    refine goes_ Try.func13 (by kernel_rfl) rfl #[.agg (cv k).toArray, .agg (cv b).toArray] (by rfl) rfl rfl (by (try simp only [List.map_toArray, List.map_cons, List.map_nil]); first | done | rfl) ?_
    refine (HDb.out _).mono ?_
    rintro e w3 ⟨rfl, hb⟩
    refine ⟨_, rfl, ?_⟩
    have hF2 := hF.call hb
    refine hK.out _ _ hF2.held (fun _ => ?_)
    clear hK K
    refine norm_ (a' := ?_) ?_ ?_
    rotate_left
    · (try unfold Act.put); simp only [putAll, Act.put, List.setIfInBounds_toArray, List.set_cons_zero, List.set_cons_succ]
      rfl
    exact HJ2_5_6_7 s _ hF2
  simp only [putAll, Act.put, List.setIfInBounds_toArray, List.set_cons_zero, List.set_cons_succ] at HJ2_6_7
  refine join_ (σ := Nat × Nat) 4 #[true, true, true, true, true, true, false, false, false, false] (fun s => [(11, Value.agg (kv (addRow k a))), (14, Value.agg (kv (addRow k b)))]) (fun s w' => NB W k a b false false s.1 s.2 w') ?_ (fun HJ2_5 => ?_)
  · intro s w' hF
    have hHeld := hF.held
    refine norm_ (a' := ?_) ?_ ?_
    rotate_left
    · (try unfold Act.put); simp only [putAll, Act.put, List.setIfInBounds_toArray, List.set_cons_zero, List.set_cons_succ]
      rfl
    refine two_ (i := 6) (j := 7) (Ni := some 7) (Nj := some 8) #[true, true, true, true, true, true, true, false, false, false] #[true, true, true, true, true, true, false, true, false, false] rfl rfl rfl rfl (by kernel_rfl) (by decide) (by decide) (fun K hK => ?_) (fun K hK => ?_)
    · have hF2 := hF.allocA
      refine value_ (by rfl) rfl (exec_alloc23 _ rfl) ?_
      refine hK.out _ _ hF2.held (fun _ => ?_)
      clear hK K
      refine norm_ (a' := ?_) ?_ ?_
      rotate_left
      · (try unfold Act.put); simp only [putAll, Act.put, List.setIfInBounds_toArray, List.set_cons_zero, List.set_cons_succ]
        rfl
      exact HJ2_5_6 (w'.heap.size, s.2) _ hF2
    · have hF2 := hF.allocB
      refine value_ (by rfl) rfl (exec_alloc23 _ rfl) ?_
      refine hK.out _ _ hF2.held (fun _ => ?_)
      clear hK K
      refine norm_ (a' := ?_) ?_ ?_
      rotate_left
      · (try unfold Act.put); simp only [putAll, Act.put, List.setIfInBounds_toArray, List.set_cons_zero, List.set_cons_succ]
        rfl
      exact HJ2_5_7 (s.1, w'.heap.size) _ hF2
  simp only [putAll, Act.put, List.setIfInBounds_toArray, List.set_cons_zero, List.set_cons_succ] at HJ2_5
  refine join_ (σ := Nat × Nat) 4 #[true, true, true, true, true, false, true, false, false, false] (fun s => [(11, Value.agg (kv (addRow k a))), (7, Value.pointer (some ⟨s.1, 0, none⟩))]) (fun s w' => NB W k a b true false s.1 s.2 w') ?_ (fun HJ2_6 => ?_)
  · intro s w' hF
    have hHeld := hF.held
    refine norm_ (a' := ?_) ?_ ?_
    rotate_left
    · (try unfold Act.put); simp only [putAll, Act.put, List.setIfInBounds_toArray, List.set_cons_zero, List.set_cons_succ]
      rfl
    refine two_ (i := 5) (j := 7) (Ni := some 14) (Nj := some 8) #[true, true, true, true, true, true, true, false, false, false] #[true, true, true, true, true, false, true, true, false, false] rfl rfl rfl rfl (by kernel_rfl) (by decide) (by decide) (fun K hK => ?_) (fun K hK => ?_)
    · refine goes_ Try.func13 (by kernel_rfl) rfl #[.agg (cv k).toArray, .agg (cv b).toArray] (by rfl) rfl rfl (by (try simp only [List.map_toArray, List.map_cons, List.map_nil]); first | done | rfl) ?_
      refine (HDb.out _).mono ?_
      rintro e w3 ⟨rfl, hb⟩
      refine ⟨_, rfl, ?_⟩
      have hF2 := hF.call hb
      refine hK.out _ _ hF2.held (fun _ => ?_)
      clear hK K
      refine norm_ (a' := ?_) ?_ ?_
      rotate_left
      · (try unfold Act.put); simp only [putAll, Act.put, List.setIfInBounds_toArray, List.set_cons_zero, List.set_cons_succ]
        rfl
      exact HJ2_5_6 s _ hF2
    · have hF2 := hF.allocB
      refine value_ (by rfl) rfl (exec_alloc23 _ rfl) ?_
      refine hK.out _ _ hF2.held (fun _ => ?_)
      clear hK K
      refine norm_ (a' := ?_) ?_ ?_
      rotate_left
      · (try unfold Act.put); simp only [putAll, Act.put, List.setIfInBounds_toArray, List.set_cons_zero, List.set_cons_succ]
        rfl
      exact HJ2_6_7 (s.1, w'.heap.size) _ hF2
  simp only [putAll, Act.put, List.setIfInBounds_toArray, List.set_cons_zero, List.set_cons_succ] at HJ2_6
  refine join_ (σ := Nat × Nat) 4 #[true, true, true, true, true, false, false, true, false, false] (fun s => [(11, Value.agg (kv (addRow k a))), (8, Value.pointer (some ⟨s.2, 0, none⟩))]) (fun s w' => NB W k a b false true s.1 s.2 w') ?_ (fun HJ2_7 => ?_)
  · intro s w' hF
    have hHeld := hF.held
    refine norm_ (a' := ?_) ?_ ?_
    rotate_left
    · (try unfold Act.put); simp only [putAll, Act.put, List.setIfInBounds_toArray, List.set_cons_zero, List.set_cons_succ]
      rfl
    refine two_ (i := 5) (j := 6) (Ni := some 14) (Nj := some 7) #[true, true, true, true, true, true, false, true, false, false] #[true, true, true, true, true, false, true, true, false, false] rfl rfl rfl rfl (by kernel_rfl) (by decide) (by decide) (fun K hK => ?_) (fun K hK => ?_)
    · refine goes_ Try.func13 (by kernel_rfl) rfl #[.agg (cv k).toArray, .agg (cv b).toArray] (by rfl) rfl rfl (by (try simp only [List.map_toArray, List.map_cons, List.map_nil]); first | done | rfl) ?_
      refine (HDb.out _).mono ?_
      rintro e w3 ⟨rfl, hb⟩
      refine ⟨_, rfl, ?_⟩
      have hF2 := hF.call hb
      refine hK.out _ _ hF2.held (fun _ => ?_)
      clear hK K
      refine norm_ (a' := ?_) ?_ ?_
      rotate_left
      · (try unfold Act.put); simp only [putAll, Act.put, List.setIfInBounds_toArray, List.set_cons_zero, List.set_cons_succ]
        rfl
      exact HJ2_5_7 s _ hF2
    · have hF2 := hF.allocA
      refine value_ (by rfl) rfl (exec_alloc23 _ rfl) ?_
      refine hK.out _ _ hF2.held (fun _ => ?_)
      clear hK K
      refine norm_ (a' := ?_) ?_ ?_
      rotate_left
      · (try unfold Act.put); simp only [putAll, Act.put, List.setIfInBounds_toArray, List.set_cons_zero, List.set_cons_succ]
        rfl
      exact HJ2_6_7 (w'.heap.size, s.2) _ hF2
  simp only [putAll, Act.put, List.setIfInBounds_toArray, List.set_cons_zero, List.set_cons_succ] at HJ2_7
  refine join_ (σ := Nat × Nat) 4 #[true, true, false, true, true, false, true, true, false, false] (fun s => [(7, Value.pointer (some ⟨s.1, 0, none⟩)), (8, Value.pointer (some ⟨s.2, 0, none⟩))]) (fun s w' => NB W k a b true true s.1 s.2 w') ?_ (fun HJ6_7 => ?_)
  · intro s w' hF
    have hHeld := hF.held
    refine norm_ (a' := ?_) ?_ ?_
    rotate_left
    · (try unfold Act.put); simp only [putAll, Act.put, List.setIfInBounds_toArray, List.set_cons_zero, List.set_cons_succ]
      rfl
    refine one_ (i := 2) (N := some 11) #[true, true, true, true, true, false, true, true, false, false] rfl rfl (by kernel_rfl) (by decide) (fun K hK => ?_)
    refine goes_ Try.func13 (by kernel_rfl) rfl #[.agg (cv k).toArray, .agg (cv a).toArray] (by rfl) rfl rfl (by (try simp only [List.map_toArray, List.map_cons, List.map_nil]); first | done | rfl) ?_
    refine (HDa.out _).mono ?_
    rintro e w3 ⟨rfl, hb⟩
    refine ⟨_, rfl, ?_⟩
    have hF2 := hF.call hb
    refine hK.out _ _ hF2.held (fun _ => ?_)
    clear hK K
    refine norm_ (a' := ?_) ?_ ?_
    rotate_left
    · (try unfold Act.put); simp only [putAll, Act.put, List.setIfInBounds_toArray, List.set_cons_zero, List.set_cons_succ]
      rfl
    exact HJ2_6_7 s _ hF2
  simp only [putAll, Act.put, List.setIfInBounds_toArray, List.set_cons_zero, List.set_cons_succ] at HJ6_7
  refine join_ (σ := Nat × Nat) 5 #[true, true, true, true, true, false, false, false, false, false] (fun s => [(11, Value.agg (kv (addRow k a)))]) (fun s w' => NB W k a b false false s.1 s.2 w') ?_ (fun HJ2 => ?_)
  · intro s w' hF
    have hHeld := hF.held
    refine norm_ (a' := ?_) ?_ ?_
    rotate_left
    · (try unfold Act.put); simp only [putAll, Act.put, List.setIfInBounds_toArray, List.set_cons_zero, List.set_cons_succ]
      rfl
    refine three_ (i := 5) (j := 6) (k := 7) (Ni := some 14) (Nj := some 7) (Nk := some 8) #[true, true, true, true, true, true, false, false, false, false] #[true, true, true, true, true, false, true, false, false, false] #[true, true, true, true, true, false, false, true, false, false] rfl rfl rfl rfl rfl rfl (by kernel_rfl) (by decide) (by decide) (by decide) (fun K hK => ?_) (fun K hK => ?_) (fun K hK => ?_)
    · refine goes_ Try.func13 (by kernel_rfl) rfl #[.agg (cv k).toArray, .agg (cv b).toArray] (by rfl) rfl rfl (by (try simp only [List.map_toArray, List.map_cons, List.map_nil]); first | done | rfl) ?_
      refine (HDb.out _).mono ?_
      rintro e w3 ⟨rfl, hb⟩
      refine ⟨_, rfl, ?_⟩
      have hF2 := hF.call hb
      refine hK.out _ _ hF2.held (fun _ => ?_)
      clear hK K
      refine norm_ (a' := ?_) ?_ ?_
      rotate_left
      · (try unfold Act.put); simp only [putAll, Act.put, List.setIfInBounds_toArray, List.set_cons_zero, List.set_cons_succ]
        rfl
      exact HJ2_5 s _ hF2
    · have hF2 := hF.allocA
      refine value_ (by rfl) rfl (exec_alloc23 _ rfl) ?_
      refine hK.out _ _ hF2.held (fun _ => ?_)
      clear hK K
      refine norm_ (a' := ?_) ?_ ?_
      rotate_left
      · (try unfold Act.put); simp only [putAll, Act.put, List.setIfInBounds_toArray, List.set_cons_zero, List.set_cons_succ]
        rfl
      exact HJ2_6 (w'.heap.size, s.2) _ hF2
    · have hF2 := hF.allocB
      refine value_ (by rfl) rfl (exec_alloc23 _ rfl) ?_
      refine hK.out _ _ hF2.held (fun _ => ?_)
      clear hK K
      refine norm_ (a' := ?_) ?_ ?_
      rotate_left
      · (try unfold Act.put); simp only [putAll, Act.put, List.setIfInBounds_toArray, List.set_cons_zero, List.set_cons_succ]
        rfl
      exact HJ2_7 (s.1, w'.heap.size) _ hF2
  simp only [putAll, Act.put, List.setIfInBounds_toArray, List.set_cons_zero, List.set_cons_succ] at HJ2
  refine join_ (σ := Nat × Nat) 5 #[true, true, false, true, true, false, true, false, false, false] (fun s => [(7, Value.pointer (some ⟨s.1, 0, none⟩))]) (fun s w' => NB W k a b true false s.1 s.2 w') ?_ (fun HJ6 => ?_)
  · intro s w' hF
    have hHeld := hF.held
    refine norm_ (a' := ?_) ?_ ?_
    rotate_left
    · (try unfold Act.put); simp only [putAll, Act.put, List.setIfInBounds_toArray, List.set_cons_zero, List.set_cons_succ]
      rfl
    refine two_ (i := 2) (j := 7) (Ni := some 11) (Nj := some 8) #[true, true, true, true, true, false, true, false, false, false] #[true, true, false, true, true, false, true, true, false, false] rfl rfl rfl rfl (by kernel_rfl) (by decide) (by decide) (fun K hK => ?_) (fun K hK => ?_)
    · refine goes_ Try.func13 (by kernel_rfl) rfl #[.agg (cv k).toArray, .agg (cv a).toArray] (by rfl) rfl rfl (by (try simp only [List.map_toArray, List.map_cons, List.map_nil]); first | done | rfl) ?_
      refine (HDa.out _).mono ?_
      rintro e w3 ⟨rfl, hb⟩
      refine ⟨_, rfl, ?_⟩
      have hF2 := hF.call hb
      refine hK.out _ _ hF2.held (fun _ => ?_)
      clear hK K
      refine norm_ (a' := ?_) ?_ ?_
      rotate_left
      · (try unfold Act.put); simp only [putAll, Act.put, List.setIfInBounds_toArray, List.set_cons_zero, List.set_cons_succ]
        rfl
      exact HJ2_6 s _ hF2
    · have hF2 := hF.allocB
      refine value_ (by rfl) rfl (exec_alloc23 _ rfl) ?_
      refine hK.out _ _ hF2.held (fun _ => ?_)
      clear hK K
      refine norm_ (a' := ?_) ?_ ?_
      rotate_left
      · (try unfold Act.put); simp only [putAll, Act.put, List.setIfInBounds_toArray, List.set_cons_zero, List.set_cons_succ]
        rfl
      exact HJ6_7 (s.1, w'.heap.size) _ hF2
  simp only [putAll, Act.put, List.setIfInBounds_toArray, List.set_cons_zero, List.set_cons_succ] at HJ6
  refine join_ (σ := Nat × Nat) 5 #[true, true, false, true, true, false, false, true, false, false] (fun s => [(8, Value.pointer (some ⟨s.2, 0, none⟩))]) (fun s w' => NB W k a b false true s.1 s.2 w') ?_ (fun HJ7 => ?_)
  · intro s w' hF
    have hHeld := hF.held
    refine norm_ (a' := ?_) ?_ ?_
    rotate_left
    · (try unfold Act.put); simp only [putAll, Act.put, List.setIfInBounds_toArray, List.set_cons_zero, List.set_cons_succ]
      rfl
    refine two_ (i := 2) (j := 6) (Ni := some 11) (Nj := some 7) #[true, true, true, true, true, false, false, true, false, false] #[true, true, false, true, true, false, true, true, false, false] rfl rfl rfl rfl (by kernel_rfl) (by decide) (by decide) (fun K hK => ?_) (fun K hK => ?_)
    · refine goes_ Try.func13 (by kernel_rfl) rfl #[.agg (cv k).toArray, .agg (cv a).toArray] (by rfl) rfl rfl (by (try simp only [List.map_toArray, List.map_cons, List.map_nil]); first | done | rfl) ?_
      refine (HDa.out _).mono ?_
      rintro e w3 ⟨rfl, hb⟩
      refine ⟨_, rfl, ?_⟩
      have hF2 := hF.call hb
      refine hK.out _ _ hF2.held (fun _ => ?_)
      clear hK K
      refine norm_ (a' := ?_) ?_ ?_
      rotate_left
      · (try unfold Act.put); simp only [putAll, Act.put, List.setIfInBounds_toArray, List.set_cons_zero, List.set_cons_succ]
        rfl
      exact HJ2_7 s _ hF2
    · have hF2 := hF.allocA
      refine value_ (by rfl) rfl (exec_alloc23 _ rfl) ?_
      refine hK.out _ _ hF2.held (fun _ => ?_)
      clear hK K
      refine norm_ (a' := ?_) ?_ ?_
      rotate_left
      · (try unfold Act.put); simp only [putAll, Act.put, List.setIfInBounds_toArray, List.set_cons_zero, List.set_cons_succ]
        rfl
      exact HJ6_7 (w'.heap.size, s.2) _ hF2
  simp only [putAll, Act.put, List.setIfInBounds_toArray, List.set_cons_zero, List.set_cons_succ] at HJ7
  refine join_ (σ := Nat × Nat) 6 #[true, true, false, true, true, false, false, false, false, false] (fun s => []) (fun s w' => NB W k a b false false s.1 s.2 w') ?_ (fun HJ0 => ?_)
  · intro s w' hF
    have hHeld := hF.held
    refine norm_ (a' := ?_) ?_ ?_
    rotate_left
    · (try unfold Act.put); simp only [putAll, Act.put, List.setIfInBounds_toArray, List.set_cons_zero, List.set_cons_succ]
      rfl
    refine three_ (i := 2) (j := 6) (k := 7) (Ni := some 11) (Nj := some 7) (Nk := some 8) #[true, true, true, true, true, false, false, false, false, false] #[true, true, false, true, true, false, true, false, false, false] #[true, true, false, true, true, false, false, true, false, false] rfl rfl rfl rfl rfl rfl (by kernel_rfl) (by decide) (by decide) (by decide) (fun K hK => ?_) (fun K hK => ?_) (fun K hK => ?_)
    · refine goes_ Try.func13 (by kernel_rfl) rfl #[.agg (cv k).toArray, .agg (cv a).toArray] (by rfl) rfl rfl (by (try simp only [List.map_toArray, List.map_cons, List.map_nil]); first | done | rfl) ?_
      refine (HDa.out _).mono ?_
      rintro e w3 ⟨rfl, hb⟩
      refine ⟨_, rfl, ?_⟩
      have hF2 := hF.call hb
      refine hK.out _ _ hF2.held (fun _ => ?_)
      clear hK K
      refine norm_ (a' := ?_) ?_ ?_
      rotate_left
      · (try unfold Act.put); simp only [putAll, Act.put, List.setIfInBounds_toArray, List.set_cons_zero, List.set_cons_succ]
        rfl
      exact HJ2 s _ hF2
    · have hF2 := hF.allocA
      refine value_ (by rfl) rfl (exec_alloc23 _ rfl) ?_
      refine hK.out _ _ hF2.held (fun _ => ?_)
      clear hK K
      refine norm_ (a' := ?_) ?_ ?_
      rotate_left
      · (try unfold Act.put); simp only [putAll, Act.put, List.setIfInBounds_toArray, List.set_cons_zero, List.set_cons_succ]
        rfl
      exact HJ6 (w'.heap.size, s.2) _ hF2
    · have hF2 := hF.allocB
      refine value_ (by rfl) rfl (exec_alloc23 _ rfl) ?_
      refine hK.out _ _ hF2.held (fun _ => ?_)
      clear hK K
      refine norm_ (a' := ?_) ?_ ?_
      rotate_left
      · (try unfold Act.put); simp only [putAll, Act.put, List.setIfInBounds_toArray, List.set_cons_zero, List.set_cons_succ]
        rfl
      exact HJ7 (s.1, w'.heap.size) _ hF2
  simp only [putAll, Act.put, List.setIfInBounds_toArray, List.set_cons_zero, List.set_cons_succ] at HJ0
  exact HJ0 (0, 0) _ hroot
end Go.Proofs.Ytbkcopejclcfdaa
