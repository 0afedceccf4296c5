/- The closures of Peer and Next, and the document's nearer. -/
import Derived.Test.YtbkcopejclcfdaaLkNear
namespace Go.Proofs.Ytbkcopejclcfdaa
open Go.RowKit Go.Proofs.YtbkcopejclcfdaaW.PrintLast Go.Proofs.Ytbkcopejclcfdaa.Sum
set_option linter.unusedVariables false
set_option linter.unusedSimpArgs false
theorem exec_buildInt {o : Oper} {a : Act} (w : World) (x : Int) (t : Operand) (ho : o.op = .buildSlice 27 1 #[(0, t)]) (hx : a.eval t = .int .i64 x) :
    (execOp a.eval o).run Try.prog w = .ok (.value (.slice (some ⟨w.heap.size, 0, none⟩) 1 1)) (w.alloc (.cells #[.int .i64 x] 3)) := by
  unfold execOp
  simp only [ho, Sem.run_bind, Sem.run_pure, List.map_toArray, List.map_cons, List.map_nil, hx]
  go_simp
/-- perhaps two rows of one number -/
structure NC (W : World) (x y : Int) (fa fb : Bool) (p q : Nat) (w : World) : Prop where
  bel : Below W.heap.size W w
  a : fa = true → w.heap[p]? = some (.cells #[.int .i64 x] 3 (0, 0))
  b : fb = true → w.heap[q]? = some (.cells #[.int .i64 y] 3 (0, 0))
theorem NC.keep {W w w' : World} {x y : Int} {fa fb : Bool} {p q : Nat} (h : NC W x y fa fb p q w) (hb : Below w.heap.size w w') : NC W x y fa fb p q w' :=
  ⟨h.bel.trans (hb.mono h.bel.size), fun e => (hb.block p (lt_of_block (h.a e))).trans (h.a e), fun e => (hb.block q (lt_of_block (h.b e))).trans (h.b e)⟩
theorem NC.buildA {W w : World} {x y : Int} {fb : Bool} {p q : Nat} (h : NC W x y false fb p q w) : NC W x y true fb w.heap.size q (w.alloc (.cells #[.int .i64 x] 3)) := by
  have h2 := h.keep ((Below.refl _ _).alloc (Nat.le_refl _) (.cells #[.int .i64 x] 3))
  exact ⟨h2.bel, fun _ => heap_alloc_new _ _, h2.b⟩
theorem NC.buildB {W w : World} {x y : Int} {fa : Bool} {p q : Nat} (h : NC W x y fa false p q w) : NC W x y fa true p w.heap.size (w.alloc (.cells #[.int .i64 y] 3)) := by
  have h2 := h.keep ((Below.refl _ _).alloc (Nat.le_refl _) (.cells #[.int .i64 y] 3))
  exact ⟨h2.bel, h2.a, fun _ => heap_alloc_new _ _⟩
theorem NC.root (W : World) (x y : Int) : NC W x y false false 0 0 W := ⟨Below.refl _ _, fun e => (by cases e), fun e => (by cases e)⟩
theorem NC.drew {W w : World} {x y : Int} {fa fb : Bool} {p q : Nat} (h : NC W x y fa fb p q w) : NC W x y fa fb p q w.drew := ⟨h.bel.drew, h.a, h.b⟩
theorem one_at {w : World} {p : Nat} {x : Int} (h : w.heap[p]? = some (.cells #[.int .i64 x] 3 (0, 0))) : Nums w (some ⟨p, 0, none⟩) [x] := fun j hj => by
  obtain rfl : j = 0 := by simp at hj; omega
  exact ⟨p, 0, rfl, lt_of_block h, by rw [cell_of_row w p 0 _ _ _ h]; rfl⟩
theorem of_one {w : World} {p : Nat} {x : Int} (h : w.heap[p]? = some (.cells #[.int .i64 x] 3 (0, 0))) : Calls Try.prog 14 #[.slice (some ⟨p, 0, none⟩) 1 1] w fun e w' => e = .returned (.agg (kv (ofL [x]))) ∧ Below w.heap.size w w' :=
  of_any (some ⟨p, 0, none⟩) 1 [x] w (by simp) (one_at h)
theorem of_oneR {w : World} {p : Nat} {x : Int} (h : w.heap[p]? = some (.cells #[.int .i64 x] 3 (0, 0))) : Calls Try.prog 15 #[.slice (some ⟨p, 0, none⟩) 1 1] w fun e w' => e = .returned (.agg (kv (ofL [x]))) ∧ Below w.heap.size w w' :=
  keyOf_any (some ⟨p, 0, none⟩) 1 [x] w (by simp) (one_at h)
/-- how near two peers are to a key -/
def nearI (k : List Int) (x y : Int) : Int := cmpL (addRow k (ofL [x])) (addRow k (ofL [y]))
def nearB (k : List Int) (x y : Int) : Bool := lessL (addRow k (ofL [x])) (addRow k (ofL [y]))
theorem nearI_neg (k : List Int) (x y : Int) : decide (nearI k x y < 0) = nearB k x y := cmpL_neg _ _
theorem key_of (xs : List Int) : Key20 (ofL xs) := ⟨ofL_length xs, ofL_bytes xs⟩
theorem range_below {B : Nat} {W W' : World} (h : Below B W W') {g off : Nat} (hg : g < B) {cs : List Value} (hr : W.rangeAt g off cs) : W'.rangeAt g off cs := fun j v hv => by
  rw [h.cell hg]
  exact hr j v hv
set_option maxHeartbeats 4000000 in
theorem clo54_any (W : World) (bk : Nat) (k : List Int) (x y : Int) (hk : Key20 k) (hr : W.rangeAt bk 0 (cv k)) (hbk : bk < W.heap.size) :
    Calls Try.prog 54 #[.int .i64 x, .int .i64 y, .pointer (some ⟨bk, 0, none⟩)] W fun e W' => e = .returned (.int .i64 (nearI k x y)) ∧ Below W.heap.size W W' := by
  have hu := Try.underlying23
  have i1 : (Try.prog.info? 23).map (·.size) = some (cv k).length := by rw [cv_length, hk.len]; exact info23
  have HR := Lib.hid (fun (w' : World) (h : Below W.heap.size W w') => range_below h hbk hr)
  clear hr
  go_enter Try.func54, Try.ntmps54
  go_wp2
  refine start_ (n := 9) (S := fun w' => Below (W).heap.size (W) w') (ds := [7]) #[false, false, false, false, false, false, false, false, false] (by kernel_rfl) rfl rfl (Below.drew (Below.refl _ _)) (fun hHeld => ?_)
  have hroot := (NC.root W x y).drew
  generalize W.drew = W2 at *
  refine take_ (i := 0) (N := some 6) (v := .agg (cv k).toArray) (a' := ?_) #[true, false, false, false, false, false, false, false, false] rfl rfl (by kernel_rfl) (fun _ _ _ h => h) (yieldsIf_load_mid (by rfl) _ _ rfl _ _ rfl _ _ (fun w' s => HR.out w' s) hu rfl i1) hHeld ?_ ?_
  rotate_left
  · simp only [Act.put, List.setIfInBounds_toArray, List.set_cons_zero, List.set_cons_succ]
    rfl
  refine pure_ (i := 1) (N := some 7) (v := ?_) (a' := ?_) #[true, true, false, false, false, false, false, false, false] rfl rfl (by kernel_rfl) (fun _ _ _ h => h) (Or.inl ⟨by rfl, ?_⟩) ?_ ?_
  rotate_left
  · intro w'
    go_simp
    with_reducible rfl
  rotate_left
  · simp only [Act.put, List.setIfInBounds_toArray, List.set_cons_zero, List.set_cons_succ]
    rfl
  refine pure_ (i := 4) (N := some 10) (v := ?_) (a' := ?_) #[true, true, false, false, true, false, false, false, false] rfl rfl (by kernel_rfl) (fun _ _ _ h => h) (Or.inl ⟨by rfl, ?_⟩) ?_ ?_
  rotate_left
  · intro w'
    go_simp
    with_reducible rfl
  rotate_left
  · simp only [Act.put, List.setIfInBounds_toArray, List.set_cons_zero, List.set_cons_succ]
    rfl
  refine join_ (σ := Nat × Nat) 2 #[true, true, true, true, true, true, true, false, false] (fun s => [(8, Value.slice (some ⟨s.1, 0, none⟩) 1 1), (9, Value.agg (kv (ofL [x]))), (11, Value.slice (some ⟨s.2, 0, none⟩) 1 1), (12, Value.agg (kv (ofL [y])))]) (fun s w' => NC W x y true true s.1 s.2 w') ?_ (fun HJ2_3_5_6 => ?_)
  · intro s w' hF
    have hHeld := hF.bel
    refine norm_ (a' := ?_) ?_ ?_
    rotate_left
    · (try unfold Act.put); simp only [putAll, Act.put, List.setIfInBounds_toArray, List.set_cons_zero, List.set_cons_succ]
      rfl
    refine last_ (i := 7) (N := some 13) #[true, true, true, true, true, true, true, true, false] rfl rfl (by kernel_rfl) (by decide) (fun K hK => ?_)
    refine goes_ Try.func55 (by kernel_rfl) rfl #[.agg (cv k).toArray, .agg (kv (ofL [x])), .agg (kv (ofL [y]))] (by rfl) rfl rfl (by (try simp only [List.map_toArray, List.map_cons, List.map_nil]); first | done | rfl) ?_
    refine (near_any k (ofL [x]) (ofL [y]) _ hk (key_of _) (key_of _)).mono ?_
    rintro e w3 ⟨rfl, hb⟩
    refine ⟨_, rfl, ?_⟩
    refine hK.out _ _ ?_
    clear hK K
    refine norm_ (a' := ?_) ?_ ?_
    rotate_left
    · (try unfold Act.put); simp only [putAll, Act.put, List.setIfInBounds_toArray, List.set_cons_zero, List.set_cons_succ]
      rfl
    refine pure_ (i := 8) (N := some 5) (v := ?_) (a' := ?_) #[true, true, true, true, true, true, true, true, true] rfl rfl (by kernel_rfl) (fun _ _ _ h => h) (Or.inl ⟨by rfl, ?_⟩) ?_ ?_
    rotate_left
    · intro w'
      go_simp
      with_reducible rfl
    rotate_left
    · simp only [Act.put, List.setIfInBounds_toArray, List.set_cons_zero, List.set_cons_succ]
      rfl
    refine done_ (by kernel_rfl) ?_
    have HBel := Lib.hid (hF.bel.trans (hb.mono hF.bel.size))
    clear hF hHeld hb
    go_wp2
    go_ret
    exact ⟨rfl, HBel.out⟩
  simp only [putAll, Act.put, List.setIfInBounds_toArray, List.set_cons_zero, List.set_cons_succ] at HJ2_3_5_6
  refine join_ (σ := Nat × Nat) 3 #[true, true, true, true, true, true, false, false, false] (fun s => [(8, Value.slice (some ⟨s.1, 0, none⟩) 1 1), (9, Value.agg (kv (ofL [x]))), (11, Value.slice (some ⟨s.2, 0, none⟩) 1 1)]) (fun s w' => NC W x y true true s.1 s.2 w') ?_ (fun HJ2_3_5 => ?_)
  · intro s w' hF
    have hHeld := hF.bel
    refine norm_ (a' := ?_) ?_ ?_
    rotate_left
    · (try unfold Act.put); simp only [putAll, Act.put, List.setIfInBounds_toArray, List.set_cons_zero, List.set_cons_succ]
      rfl
    refine one_ (i := 6) (N := some 12) #[true, true, true, true, true, true, true, false, false] rfl rfl (by kernel_rfl) (by decide) (fun K hK => ?_)
    refine goes_ Try.func14 (by kernel_rfl) rfl #[.slice (some ⟨s.2, 0, none⟩) 1 1] (by rfl) rfl rfl (by (try simp only [List.map_toArray, List.map_cons, List.map_nil]); first | done | rfl) ?_
    refine (of_one (hF.b rfl)).mono ?_
    rintro e w3 ⟨rfl, hb⟩
    refine ⟨_, rfl, ?_⟩
    have hF2 := hF.keep hb
    refine hK.out _ _ hF2.bel (fun _ => ?_)
    clear hK K
    refine norm_ (a' := ?_) ?_ ?_
    rotate_left
    · (try unfold Act.put); simp only [putAll, Act.put, List.setIfInBounds_toArray, List.set_cons_zero, List.set_cons_succ]
      rfl
    exact HJ2_3_5_6 s _ hF2
  simp only [putAll, Act.put, List.setIfInBounds_toArray, List.set_cons_zero, List.set_cons_succ] at HJ2_3_5
  refine join_ (σ := Nat × Nat) 4 #[true, true, true, true, true, false, false, false, false] (fun s => [(8, Value.slice (some ⟨s.1, 0, none⟩) 1 1), (9, Value.agg (kv (ofL [x])))]) (fun s w' => NC W x y true false s.1 s.2 w') ?_ (fun HJ2_3 => ?_)
  · intro s w' hF
    have hHeld := hF.bel
    refine norm_ (a' := ?_) ?_ ?_
    rotate_left
    · (try unfold Act.put); simp only [putAll, Act.put, List.setIfInBounds_toArray, List.set_cons_zero, List.set_cons_succ]
      rfl
    refine one_ (i := 5) (N := some 11) #[true, true, true, true, true, true, false, false, false] rfl rfl (by kernel_rfl) (by decide) (fun K hK => ?_)
    have hF2 := hF.buildB
    refine value_ (by rfl) rfl (exec_buildInt _ y (.tmp 10) rfl rfl) ?_
    refine hK.out _ _ hF2.bel (fun _ => ?_)
    clear hK K
    refine norm_ (a' := ?_) ?_ ?_
    rotate_left
    · (try unfold Act.put); simp only [putAll, Act.put, List.setIfInBounds_toArray, List.set_cons_zero, List.set_cons_succ]
      rfl
    exact HJ2_3_5 (s.1, w'.heap.size) _ hF2
  simp only [putAll, Act.put, List.setIfInBounds_toArray, List.set_cons_zero, List.set_cons_succ] at HJ2_3
  refine join_ (σ := Nat × Nat) 4 #[true, true, true, false, true, true, false, false, false] (fun s => [(8, Value.slice (some ⟨s.1, 0, none⟩) 1 1), (11, Value.slice (some ⟨s.2, 0, none⟩) 1 1)]) (fun s w' => NC W x y true true s.1 s.2 w') ?_ (fun HJ2_5 => ?_)
  · intro s w' hF
    have hHeld := hF.bel
    refine norm_ (a' := ?_) ?_ ?_
    rotate_left
    · (try unfold Act.put); simp only [putAll, Act.put, List.setIfInBounds_toArray, List.set_cons_zero, List.set_cons_succ]
      rfl
    refine one_ (i := 3) (N := some 9) #[true, true, true, true, true, true, false, false, false] rfl rfl (by kernel_rfl) (by decide) (fun K hK => ?_)
    refine goes_ Try.func14 (by kernel_rfl) rfl #[.slice (some ⟨s.1, 0, none⟩) 1 1] (by rfl) rfl rfl (by (try simp only [List.map_toArray, List.map_cons, List.map_nil]); first | done | rfl) ?_
    refine (of_one (hF.a rfl)).mono ?_
    rintro e w3 ⟨rfl, hb⟩
    refine ⟨_, rfl, ?_⟩
    have hF2 := hF.keep hb
    refine hK.out _ _ hF2.bel (fun _ => ?_)
    clear hK K
    refine norm_ (a' := ?_) ?_ ?_
    rotate_left
    · (try unfold Act.put); simp only [putAll, Act.put, List.setIfInBounds_toArray, List.set_cons_zero, List.set_cons_succ]
      rfl
    exact HJ2_3_5 s _ hF2
  simp only [putAll, Act.put, List.setIfInBounds_toArray, List.set_cons_zero, List.set_cons_succ] at HJ2_5
  refine join_ (σ := Nat × Nat) 5 #[true, true, true, false, true, false, false, false, false] (fun s => [(8, Value.slice (some ⟨s.1, 0, none⟩) 1 1)]) (fun s w' => NC W x y true false s.1 s.2 w') ?_ (fun HJ2 => ?_)
  · intro s w' hF
    have hHeld := hF.bel
    refine norm_ (a' := ?_) ?_ ?_
    rotate_left
    · (try unfold Act.put); simp only [putAll, Act.put, List.setIfInBounds_toArray, List.set_cons_zero, List.set_cons_succ]
      rfl
    refine two_ (i := 3) (j := 5) (Ni := some 9) (Nj := some 11) #[true, true, true, true, true, false, false, false, false] #[true, true, true, false, true, true, false, false, false] rfl rfl rfl rfl (by kernel_rfl) (by decide) (by decide) (fun K hK => ?_) (fun K hK => ?_)
    · refine goes_ Try.func14 (by kernel_rfl) rfl #[.slice (some ⟨s.1, 0, none⟩) 1 1] (by rfl) rfl rfl (by (try simp only [List.map_toArray, List.map_cons, List.map_nil]); first | done | rfl) ?_
      refine (of_one (hF.a rfl)).mono ?_
      rintro e w3 ⟨rfl, hb⟩
      refine ⟨_, rfl, ?_⟩
      have hF2 := hF.keep hb
      refine hK.out _ _ hF2.bel (fun _ => ?_)
      clear hK K
      refine norm_ (a' := ?_) ?_ ?_
      rotate_left
      · (try unfold Act.put); simp only [putAll, Act.put, List.setIfInBounds_toArray, List.set_cons_zero, List.set_cons_succ]
        rfl
      exact HJ2_3 s _ hF2
    · have hF2 := hF.buildB
      refine value_ (by rfl) rfl (exec_buildInt _ y (.tmp 10) rfl rfl) ?_
      refine hK.out _ _ hF2.bel (fun _ => ?_)
      clear hK K
      refine norm_ (a' := ?_) ?_ ?_
      rotate_left
      · (try unfold Act.put); simp only [putAll, Act.put, List.setIfInBounds_toArray, List.set_cons_zero, List.set_cons_succ]
        rfl
      exact HJ2_5 (s.1, w'.heap.size) _ hF2
  simp only [putAll, Act.put, List.setIfInBounds_toArray, List.set_cons_zero, List.set_cons_succ] at HJ2
  refine join_ (σ := Nat × Nat) 5 #[true, true, false, false, true, true, false, false, false] (fun s => [(11, Value.slice (some ⟨s.2, 0, none⟩) 1 1)]) (fun s w' => NC W x y false true s.1 s.2 w') ?_ (fun HJ5 => ?_)
  · intro s w' hF
    have hHeld := hF.bel
    refine norm_ (a' := ?_) ?_ ?_
    rotate_left
    · (try unfold Act.put); simp only [putAll, Act.put, List.setIfInBounds_toArray, List.set_cons_zero, List.set_cons_succ]
      rfl
    refine one_ (i := 2) (N := some 8) #[true, true, true, false, true, true, false, false, false] rfl rfl (by kernel_rfl) (by decide) (fun K hK => ?_)
    have hF2 := hF.buildA
    refine value_ (by rfl) rfl (exec_buildInt _ x (.tmp 7) rfl rfl) ?_
    refine hK.out _ _ hF2.bel (fun _ => ?_)
    clear hK K
    refine norm_ (a' := ?_) ?_ ?_
    rotate_left
    · (try unfold Act.put); simp only [putAll, Act.put, List.setIfInBounds_toArray, List.set_cons_zero, List.set_cons_succ]
      rfl
    exact HJ2_5 (w'.heap.size, s.2) _ hF2
  simp only [putAll, Act.put, List.setIfInBounds_toArray, List.set_cons_zero, List.set_cons_succ] at HJ5
  refine join_ (σ := Nat × Nat) 6 #[true, true, false, false, true, false, false, false, false] (fun s => []) (fun s w' => NC W x y false false s.1 s.2 w') ?_ (fun HJ0 => ?_)
  · intro s w' hF
    have hHeld := hF.bel
    refine norm_ (a' := ?_) ?_ ?_
    rotate_left
    · (try unfold Act.put); simp only [putAll, Act.put, List.setIfInBounds_toArray, List.set_cons_zero, List.set_cons_succ]
      rfl
    refine two_ (i := 2) (j := 5) (Ni := some 8) (Nj := some 11) #[true, true, true, false, true, false, false, false, false] #[true, true, false, false, true, true, false, false, false] rfl rfl rfl rfl (by kernel_rfl) (by decide) (by decide) (fun K hK => ?_) (fun K hK => ?_)
    · have hF2 := hF.buildA
      refine value_ (by rfl) rfl (exec_buildInt _ x (.tmp 7) rfl rfl) ?_
      refine hK.out _ _ hF2.bel (fun _ => ?_)
      clear hK K
      refine norm_ (a' := ?_) ?_ ?_
      rotate_left
      · (try unfold Act.put); simp only [putAll, Act.put, List.setIfInBounds_toArray, List.set_cons_zero, List.set_cons_succ]
        rfl
      exact HJ2 (w'.heap.size, s.2) _ hF2
    · have hF2 := hF.buildB
      refine value_ (by rfl) rfl (exec_buildInt _ y (.tmp 10) rfl rfl) ?_
      refine hK.out _ _ hF2.bel (fun _ => ?_)
      clear hK K
      refine norm_ (a' := ?_) ?_ ?_
      rotate_left
      · (try unfold Act.put); simp only [putAll, Act.put, List.setIfInBounds_toArray, List.set_cons_zero, List.set_cons_succ]
        rfl
      exact HJ5 (s.1, w'.heap.size) _ hF2
  simp only [putAll, Act.put, List.setIfInBounds_toArray, List.set_cons_zero, List.set_cons_succ] at HJ0
  exact HJ0 (0, 0) _ hroot
set_option maxHeartbeats 4000000 in
theorem clo65_any (W : World) (b p : Nat) (k : List Int) (x y : Int) (hk : Key20 k) (hc : W.cell? ⟨b, 0, none⟩ = some (.pointer (some ⟨p, 0, none⟩))) (hr : W.rangeAt p 0 (cv k)) (hp : p < W.heap.size) :
    Calls Try.prog 65 #[.int .i64 x, .int .i64 y, .pointer (some ⟨b, 0, none⟩)] W fun e W' => e = .returned (.int .i64 (nearI k x y)) ∧ Below W.heap.size W W' := by
  have hu := Try.underlying23
  have i1 : (Try.prog.info? 23).map (·.size) = some (cv k).length := by rw [cv_length, hk.len]; exact info23
  have hbl := World.block_lt_of_cell? _ _ hc
  dsimp only at hbl
  have HR := Lib.hid (fun (w' : World) (h : Below W.heap.size W w') => range_below h hp hr)
  have HC := Lib.hid (fun (w' : World) (h : Below W.heap.size W w') => ((h.cell (p := ⟨b, 0, none⟩) hbl).trans hc : w'.cell? ⟨b, 0, none⟩ = _))
  clear hr hc
  go_enter Try.func65, Try.ntmps65
  go_wp2
  refine start_ (n := 12) (S := fun w' => Below (W).heap.size (W) w') (ds := [10]) #[false, false, false, false, false, false, false, false, false, false, false, false] (by kernel_rfl) rfl rfl (Below.drew (Below.refl _ _)) (fun hHeld => ?_)
  have hroot := (NC.root W x y).drew
  generalize W.drew = W2 at *
  refine take_ (i := 0) (N := some 6) (v := ?_) (a' := ?_) #[true, false, false, false, false, false, false, false, false, false, false, false] rfl rfl (by kernel_rfl) (fun _ _ _ h => h) (Or.inl ⟨by rfl, ?_⟩) hHeld ?_ ?_
  rotate_left
  · intro w' hSw
    have hSw := HC.out w' hSw
    go_simp
    with_reducible rfl
  rotate_left
  · simp only [Act.put, List.setIfInBounds_toArray, List.set_cons_zero, List.set_cons_succ]
    rfl
  refine pure_ (i := 1) (N := some 7) (v := ?_) (a' := ?_) #[true, true, false, false, false, false, false, false, false, false, false, false] rfl rfl (by kernel_rfl) (fun _ _ _ h => h) (Or.inl ⟨by rfl, ?_⟩) ?_ ?_
  rotate_left
  · intro w'
    go_simp
    with_reducible rfl
  rotate_left
  · simp only [Act.put, List.setIfInBounds_toArray, List.set_cons_zero, List.set_cons_succ]
    rfl
  refine pure_ (i := 2) (N := some 8) (v := ?_) (a' := ?_) #[true, true, true, false, false, false, false, false, false, false, false, false] rfl rfl (by kernel_rfl) (fun _ _ _ h => h) (Or.inl ⟨by rfl, ?_⟩) ?_ ?_
  rotate_left
  · intro w'
    go_simp
    with_reducible rfl
  rotate_left
  · simp only [Act.put, List.setIfInBounds_toArray, List.set_cons_zero, List.set_cons_succ]
    rfl
  refine take_ (i := 3) (N := some 9) (v := .agg (cv k).toArray) (a' := ?_) #[true, true, true, true, false, false, false, false, false, false, false, false] rfl rfl (by kernel_rfl) (fun _ _ _ h => h) (yieldsIf_load_mid (by rfl) _ _ rfl _ _ rfl _ _ (fun w' s => HR.out w' s) hu rfl i1) hHeld ?_ ?_
  rotate_left
  · simp only [Act.put, List.setIfInBounds_toArray, List.set_cons_zero, List.set_cons_succ]
    rfl
  refine pure_ (i := 4) (N := some 10) (v := ?_) (a' := ?_) #[true, true, true, true, true, false, false, false, false, false, false, false] rfl rfl (by kernel_rfl) (fun _ _ _ h => h) (Or.inl ⟨by rfl, ?_⟩) ?_ ?_
  rotate_left
  · intro w'
    go_simp
    with_reducible rfl
  rotate_left
  · simp only [Act.put, List.setIfInBounds_toArray, List.set_cons_zero, List.set_cons_succ]
    rfl
  refine pure_ (i := 7) (N := some 13) (v := ?_) (a' := ?_) #[true, true, true, true, true, false, false, true, false, false, false, false] rfl rfl (by kernel_rfl) (fun _ _ _ h => h) (Or.inl ⟨by rfl, ?_⟩) ?_ ?_
  rotate_left
  · intro w'
    go_simp
    with_reducible rfl
  rotate_left
  · simp only [Act.put, List.setIfInBounds_toArray, List.set_cons_zero, List.set_cons_succ]
    rfl
  refine join_ (σ := Nat × Nat) 2 #[true, true, true, true, true, true, true, true, true, true, false, false] (fun s => [(11, Value.slice (some ⟨s.1, 0, none⟩) 1 1), (12, Value.agg (kv (ofL [x]))), (14, Value.slice (some ⟨s.2, 0, none⟩) 1 1), (15, Value.agg (kv (ofL [y])))]) (fun s w' => NC W x y true true s.1 s.2 w') ?_ (fun HJ5_6_8_9 => ?_)
  · intro s w' hF
    have hHeld := hF.bel
    refine norm_ (a' := ?_) ?_ ?_
    rotate_left
    · (try unfold Act.put); simp only [putAll, Act.put, List.setIfInBounds_toArray, List.set_cons_zero, List.set_cons_succ]
      rfl
    refine last_ (i := 10) (N := some 16) #[true, true, true, true, true, true, true, true, true, true, true, false] rfl rfl (by kernel_rfl) (by decide) (fun K hK => ?_)
    refine goes_ Try.func55 (by kernel_rfl) rfl #[.agg (cv k).toArray, .agg (kv (ofL [x])), .agg (kv (ofL [y]))] (by rfl) rfl rfl (by (try simp only [List.map_toArray, List.map_cons, List.map_nil]); first | done | rfl) ?_
    refine (near_any k (ofL [x]) (ofL [y]) _ hk (key_of _) (key_of _)).mono ?_
    rintro e w3 ⟨rfl, hb⟩
    refine ⟨_, rfl, ?_⟩
    refine hK.out _ _ ?_
    clear hK K
    refine norm_ (a' := ?_) ?_ ?_
    rotate_left
    · (try unfold Act.put); simp only [putAll, Act.put, List.setIfInBounds_toArray, List.set_cons_zero, List.set_cons_succ]
      rfl
    refine pure_ (i := 11) (N := some 5) (v := ?_) (a' := ?_) #[true, true, true, true, true, true, true, true, true, true, true, true] rfl rfl (by kernel_rfl) (fun _ _ _ h => h) (Or.inl ⟨by rfl, ?_⟩) ?_ ?_
    rotate_left
    · intro w'
      go_simp
      with_reducible rfl
    rotate_left
    · simp only [Act.put, List.setIfInBounds_toArray, List.set_cons_zero, List.set_cons_succ]
      rfl
    refine done_ (by kernel_rfl) ?_
    have HBel := Lib.hid (hF.bel.trans (hb.mono hF.bel.size))
    clear hF hHeld hb
    go_wp2
    go_ret
    exact ⟨rfl, HBel.out⟩
  simp only [putAll, Act.put, List.setIfInBounds_toArray, List.set_cons_zero, List.set_cons_succ] at HJ5_6_8_9
  refine join_ (σ := Nat × Nat) 3 #[true, true, true, true, true, true, true, true, true, false, false, false] (fun s => [(11, Value.slice (some ⟨s.1, 0, none⟩) 1 1), (12, Value.agg (kv (ofL [x]))), (14, Value.slice (some ⟨s.2, 0, none⟩) 1 1)]) (fun s w' => NC W x y true true s.1 s.2 w') ?_ (fun HJ5_6_8 => ?_)
  · intro s w' hF
    have hHeld := hF.bel
    refine norm_ (a' := ?_) ?_ ?_
    rotate_left
    · (try unfold Act.put); simp only [putAll, Act.put, List.setIfInBounds_toArray, List.set_cons_zero, List.set_cons_succ]
      rfl
    refine one_ (i := 9) (N := some 15) #[true, true, true, true, true, true, true, true, true, true, false, false] rfl rfl (by kernel_rfl) (by decide) (fun K hK => ?_)
    refine goes_ Try.func14 (by kernel_rfl) rfl #[.slice (some ⟨s.2, 0, none⟩) 1 1] (by rfl) rfl rfl (by (try simp only [List.map_toArray, List.map_cons, List.map_nil]); first | done | rfl) ?_
    refine (of_one (hF.b rfl)).mono ?_
    rintro e w3 ⟨rfl, hb⟩
    refine ⟨_, rfl, ?_⟩
    have hF2 := hF.keep hb
    refine hK.out _ _ hF2.bel (fun _ => ?_)
    clear hK K
    refine norm_ (a' := ?_) ?_ ?_
    rotate_left
    · (try unfold Act.put); simp only [putAll, Act.put, List.setIfInBounds_toArray, List.set_cons_zero, List.set_cons_succ]
      rfl
    exact HJ5_6_8_9 s _ hF2
  simp only [putAll, Act.put, List.setIfInBounds_toArray, List.set_cons_zero, List.set_cons_succ] at HJ5_6_8
  refine join_ (σ := Nat × Nat) 4 #[true, true, true, true, true, true, true, true, false, false, false, false] (fun s => [(11, Value.slice (some ⟨s.1, 0, none⟩) 1 1), (12, Value.agg (kv (ofL [x])))]) (fun s w' => NC W x y true false s.1 s.2 w') ?_ (fun HJ5_6 => ?_)
  · intro s w' hF
    have hHeld := hF.bel
    refine norm_ (a' := ?_) ?_ ?_
    rotate_left
    · (try unfold Act.put); simp only [putAll, Act.put, List.setIfInBounds_toArray, List.set_cons_zero, List.set_cons_succ]
      rfl
    refine one_ (i := 8) (N := some 14) #[true, true, true, true, true, true, true, true, true, false, false, false] rfl rfl (by kernel_rfl) (by decide) (fun K hK => ?_)
    have hF2 := hF.buildB
    refine value_ (by rfl) rfl (exec_buildInt _ y (.tmp 13) rfl rfl) ?_
    refine hK.out _ _ hF2.bel (fun _ => ?_)
    clear hK K
    refine norm_ (a' := ?_) ?_ ?_
    rotate_left
    · (try unfold Act.put); simp only [putAll, Act.put, List.setIfInBounds_toArray, List.set_cons_zero, List.set_cons_succ]
      rfl
    exact HJ5_6_8 (s.1, w'.heap.size) _ hF2
  simp only [putAll, Act.put, List.setIfInBounds_toArray, List.set_cons_zero, List.set_cons_succ] at HJ5_6
  refine join_ (σ := Nat × Nat) 4 #[true, true, true, true, true, true, false, true, true, false, false, false] (fun s => [(11, Value.slice (some ⟨s.1, 0, none⟩) 1 1), (14, Value.slice (some ⟨s.2, 0, none⟩) 1 1)]) (fun s w' => NC W x y true true s.1 s.2 w') ?_ (fun HJ5_8 => ?_)
  · intro s w' hF
    have hHeld := hF.bel
    refine norm_ (a' := ?_) ?_ ?_
    rotate_left
    · (try unfold Act.put); simp only [putAll, Act.put, List.setIfInBounds_toArray, List.set_cons_zero, List.set_cons_succ]
      rfl
    refine one_ (i := 6) (N := some 12) #[true, true, true, true, true, true, true, true, true, false, false, false] rfl rfl (by kernel_rfl) (by decide) (fun K hK => ?_)
    refine goes_ Try.func14 (by kernel_rfl) rfl #[.slice (some ⟨s.1, 0, none⟩) 1 1] (by rfl) rfl rfl (by (try simp only [List.map_toArray, List.map_cons, List.map_nil]); first | done | rfl) ?_
    refine (of_one (hF.a rfl)).mono ?_
    rintro e w3 ⟨rfl, hb⟩
    refine ⟨_, rfl, ?_⟩
    have hF2 := hF.keep hb
    refine hK.out _ _ hF2.bel (fun _ => ?_)
    clear hK K
    refine norm_ (a' := ?_) ?_ ?_
    rotate_left
    · (try unfold Act.put); simp only [putAll, Act.put, List.setIfInBounds_toArray, List.set_cons_zero, List.set_cons_succ]
      rfl
    exact HJ5_6_8 s _ hF2
  simp only [putAll, Act.put, List.setIfInBounds_toArray, List.set_cons_zero, List.set_cons_succ] at HJ5_8
  refine join_ (σ := Nat × Nat) 5 #[true, true, true, true, true, true, false, true, false, false, false, false] (fun s => [(11, Value.slice (some ⟨s.1, 0, none⟩) 1 1)]) (fun s w' => NC W x y true false s.1 s.2 w') ?_ (fun HJ5 => ?_)
  · intro s w' hF
    have hHeld := hF.bel
    refine norm_ (a' := ?_) ?_ ?_
    rotate_left
    · (try unfold Act.put); simp only [putAll, Act.put, List.setIfInBounds_toArray, List.set_cons_zero, List.set_cons_succ]
      rfl
    refine two_ (i := 6) (j := 8) (Ni := some 12) (Nj := some 14) #[true, true, true, true, true, true, true, true, false, false, false, false] #[true, true, true, true, true, true, false, true, true, false, false, false] rfl rfl rfl rfl (by kernel_rfl) (by decide) (by decide) (fun K hK => ?_) (fun K hK => ?_)
    · refine goes_ Try.func14 (by kernel_rfl) rfl #[.slice (some ⟨s.1, 0, none⟩) 1 1] (by rfl) rfl rfl (by (try simp only [List.map_toArray, List.map_cons, List.map_nil]); first | done | rfl) ?_
      refine (of_one (hF.a rfl)).mono ?_
      rintro e w3 ⟨rfl, hb⟩
      refine ⟨_, rfl, ?_⟩
      have hF2 := hF.keep hb
      refine hK.out _ _ hF2.bel (fun _ => ?_)
      clear hK K
      refine norm_ (a' := ?_) ?_ ?_
      rotate_left
      · (try unfold Act.put); simp only [putAll, Act.put, List.setIfInBounds_toArray, List.set_cons_zero, List.set_cons_succ]
        rfl
      exact HJ5_6 s _ hF2
    · have hF2 := hF.buildB
      refine value_ (by rfl) rfl (exec_buildInt _ y (.tmp 13) rfl rfl) ?_
      refine hK.out _ _ hF2.bel (fun _ => ?_)
      clear hK K
      refine norm_ (a' := ?_) ?_ ?_
      rotate_left
      · (try unfold Act.put); simp only [putAll, Act.put, List.setIfInBounds_toArray, List.set_cons_zero, List.set_cons_succ]
        rfl
      exact HJ5_8 (s.1, w'.heap.size) _ hF2
  simp only [putAll, Act.put, List.setIfInBounds_toArray, List.set_cons_zero, List.set_cons_succ] at HJ5
  refine join_ (σ := Nat × Nat) 5 #[true, true, true, true, true, false, false, true, true, false, false, false] (fun s => [(14, Value.slice (some ⟨s.2, 0, none⟩) 1 1)]) (fun s w' => NC W x y false true s.1 s.2 w') ?_ (fun HJ8 => ?_)
  · intro s w' hF
    have hHeld := hF.bel
    refine norm_ (a' := ?_) ?_ ?_
    rotate_left
    · (try unfold Act.put); simp only [putAll, Act.put, List.setIfInBounds_toArray, List.set_cons_zero, List.set_cons_succ]
      rfl
    refine one_ (i := 5) (N := some 11) #[true, true, true, true, true, true, false, true, true, false, false, false] rfl rfl (by kernel_rfl) (by decide) (fun K hK => ?_)
    have hF2 := hF.buildA
    refine value_ (by rfl) rfl (exec_buildInt _ x (.tmp 10) rfl rfl) ?_
    refine hK.out _ _ hF2.bel (fun _ => ?_)
    clear hK K
    refine norm_ (a' := ?_) ?_ ?_
    rotate_left
    · (try unfold Act.put); simp only [putAll, Act.put, List.setIfInBounds_toArray, List.set_cons_zero, List.set_cons_succ]
      rfl
    exact HJ5_8 (w'.heap.size, s.2) _ hF2
  simp only [putAll, Act.put, List.setIfInBounds_toArray, List.set_cons_zero, List.set_cons_succ] at HJ8
  refine join_ (σ := Nat × Nat) 6 #[true, true, true, true, true, false, false, true, false, false, false, false] (fun s => []) (fun s w' => NC W x y false false s.1 s.2 w') ?_ (fun HJ0 => ?_)
  · intro s w' hF
    have hHeld := hF.bel
    refine norm_ (a' := ?_) ?_ ?_
    rotate_left
    · (try unfold Act.put); simp only [putAll, Act.put, List.setIfInBounds_toArray, List.set_cons_zero, List.set_cons_succ]
      rfl
    refine two_ (i := 5) (j := 8) (Ni := some 11) (Nj := some 14) #[true, true, true, true, true, true, false, true, false, false, false, false] #[true, true, true, true, true, false, false, true, true, false, false, false] rfl rfl rfl rfl (by kernel_rfl) (by decide) (by decide) (fun K hK => ?_) (fun K hK => ?_)
    · have hF2 := hF.buildA
      refine value_ (by rfl) rfl (exec_buildInt _ x (.tmp 10) rfl rfl) ?_
      refine hK.out _ _ hF2.bel (fun _ => ?_)
      clear hK K
      refine norm_ (a' := ?_) ?_ ?_
      rotate_left
      · (try unfold Act.put); simp only [putAll, Act.put, List.setIfInBounds_toArray, List.set_cons_zero, List.set_cons_succ]
        rfl
      exact HJ5 (w'.heap.size, s.2) _ hF2
    · have hF2 := hF.buildB
      refine value_ (by rfl) rfl (exec_buildInt _ y (.tmp 13) rfl rfl) ?_
      refine hK.out _ _ hF2.bel (fun _ => ?_)
      clear hK K
      refine norm_ (a' := ?_) ?_ ?_
      rotate_left
      · (try unfold Act.put); simp only [putAll, Act.put, List.setIfInBounds_toArray, List.set_cons_zero, List.set_cons_succ]
        rfl
      exact HJ8 (s.1, w'.heap.size) _ hF2
  simp only [putAll, Act.put, List.setIfInBounds_toArray, List.set_cons_zero, List.set_cons_succ] at HJ0
  exact HJ0 (0, 0) _ hroot
set_option maxHeartbeats 4000000 in
theorem rnear_any (k : List Int) (x y : Int) (W : World) (hk : Key20 k) :
    Calls Try.prog 56 #[.agg (kv k), .int .i64 x, .int .i64 y] W fun e W' => e = .returned (.bool (nearB k x y)) ∧ Below W.heap.size W W' := by
  have hu := Try.underlying23
  have i1 : (Try.prog.info? 23).map (·.size) = some (cv k).length := by rw [cv_length, hk.len]; exact info23
  have HB : nearB k x y = lessL (addRow (ofL [x]) k) (addRow (ofL [y]) k) := by
    unfold nearB
    rw [addRow_comm (key_of [x]) hk, addRow_comm (key_of [y]) hk]
  rw [HB]
  have hW1 : Below W.heap.size W (W.alloc (.cells (kv k) 23)) := (Below.refl _ _).alloc (Nat.le_refl _) _
  have hrg : (W.alloc (.cells (kv k) 23)).rangeAt W.heap.size 0 (cv k) := fun j u hj => by
    rw [Nat.zero_add, cell_of_row _ _ j (kv k) 23 (0, 0) (heap_alloc_new _ _)]
    simpa [kv_cv] using hj
  have HR := Lib.hid (fun (w' : World) (h : Below (W.alloc (.cells (kv k) 23)).heap.size (W.alloc (.cells (kv k) 23)) w') => range_below h (g := W.heap.size) (by simp) hrg)
  clear hrg HB
  go_enter Try.func56, Try.ntmps56
  go_wp2
  refine start_ (n := 12) (S := fun w' => Below (W.alloc (.cells (kv k) 23)).heap.size (W.alloc (.cells (kv k) 23)) w') (ds := [10]) #[false, false, false, false, false, false, false, false, false, false, false, false] (by kernel_rfl) rfl rfl (Below.drew (Below.refl _ _)) (fun hHeld => ?_)
  have hroot := (NC.root (W.alloc (.cells (kv k) 23)) x y).drew
  generalize hW1' : W.alloc (.cells (kv k) 23) = W1 at *
  generalize W1.drew = W2 at *
  refine pure_ (i := 0) (N := some 7) (v := ?_) (a' := ?_) #[true, false, false, false, false, false, false, false, false, false, false, false] rfl rfl (by kernel_rfl) (fun _ _ _ h => h) (Or.inl ⟨by rfl, ?_⟩) ?_ ?_
  rotate_left
  · intro w'
    go_simp
    with_reducible rfl
  rotate_left
  · simp only [Act.put, List.setIfInBounds_toArray, List.set_cons_zero, List.set_cons_succ]
    rfl
  refine take_ (i := 3) (N := some 10) (v := .agg (cv k).toArray) (a' := ?_) #[true, false, false, true, false, false, false, false, false, false, false, false] rfl rfl (by kernel_rfl) (fun _ _ _ h => h) (yieldsIf_load_mid (by rfl) _ _ rfl _ _ rfl _ _ (fun w' s => HR.out w' s) hu rfl i1) hHeld ?_ ?_
  rotate_left
  · simp only [Act.put, List.setIfInBounds_toArray, List.set_cons_zero, List.set_cons_succ]
    rfl
  refine pure_ (i := 5) (N := some 12) (v := ?_) (a' := ?_) #[true, false, false, true, false, true, false, false, false, false, false, false] rfl rfl (by kernel_rfl) (fun _ _ _ h => h) (Or.inl ⟨by rfl, ?_⟩) ?_ ?_
  rotate_left
  · intro w'
    go_simp
    with_reducible rfl
  rotate_left
  · simp only [Act.put, List.setIfInBounds_toArray, List.set_cons_zero, List.set_cons_succ]
    rfl
  refine take_ (i := 8) (N := some 15) (v := .agg (cv k).toArray) (a' := ?_) #[true, false, false, true, false, true, false, false, true, false, false, false] rfl rfl (by kernel_rfl) (fun _ _ _ h => h) (yieldsIf_load_mid (by rfl) _ _ rfl _ _ rfl _ _ (fun w' s => HR.out w' s) hu rfl i1) hHeld ?_ ?_
  rotate_left
  · simp only [Act.put, List.setIfInBounds_toArray, List.set_cons_zero, List.set_cons_succ]
    rfl
  refine join_ (σ := Nat × Nat) 2 #[true, true, true, true, true, true, true, true, true, true, false, false] (fun s => [(8, Value.slice (some ⟨s.1, 0, none⟩) 1 1), (9, Value.agg (kv (ofL [x]))), (13, Value.slice (some ⟨s.2, 0, none⟩) 1 1), (14, Value.agg (kv (ofL [y]))), (11, Value.agg (kv (addRow (ofL [x]) k))), (16, Value.agg (kv (addRow (ofL [y]) k)))]) (fun s w' => NC W1 x y true true s.1 s.2 w') ?_ (fun HJ1_2_4_6_7_9 => ?_)
  · intro s w' hF
    have hHeld := hF.bel
    refine norm_ (a' := ?_) ?_ ?_
    rotate_left
    · (try unfold Act.put); simp only [putAll, Act.put, List.setIfInBounds_toArray, List.set_cons_zero, List.set_cons_succ]
      rfl
    refine last_ (i := 10) (N := some 17) #[true, true, true, true, true, true, true, true, true, true, true, false] rfl rfl (by kernel_rfl) (by decide) (fun K hK => ?_)
    refine goes_ Try.func18 (by kernel_rfl) rfl #[.agg (kv (addRow (ofL [x]) k)), .agg (kv (addRow (ofL [y]) k))] (by rfl) rfl rfl (by (try simp only [List.map_toArray, List.map_cons, List.map_nil]); first | done | rfl) ?_
    refine (rless_any (addRow (ofL [x]) k) (addRow (ofL [y]) k) _ (by rw [addRow_length, ofL_length]) (by rw [addRow_length, ofL_length])).mono ?_
    rintro e w3 ⟨rfl, hb⟩
    refine ⟨_, rfl, ?_⟩
    refine hK.out _ _ ?_
    clear hK K
    refine norm_ (a' := ?_) ?_ ?_
    rotate_left
    · (try unfold Act.put); simp only [putAll, Act.put, List.setIfInBounds_toArray, List.set_cons_zero, List.set_cons_succ]
      rfl
    refine pure_ (i := 11) (N := some 6) (v := ?_) (a' := ?_) #[true, true, true, true, true, true, true, true, true, true, true, true] rfl rfl (by kernel_rfl) (fun _ _ _ h => h) (Or.inl ⟨by rfl, ?_⟩) ?_ ?_
    rotate_left
    · intro w'
      go_simp
      with_reducible rfl
    rotate_left
    · simp only [Act.put, List.setIfInBounds_toArray, List.set_cons_zero, List.set_cons_succ]
      rfl
    refine done_ (by kernel_rfl) ?_
    have HBel := Lib.hid (hW1.trans ((hF.bel.trans (hb.mono hF.bel.size)).mono hW1.size))
    clear hF hHeld hb
    go_wp2
    go_ret
    exact ⟨rfl, HBel.out⟩
  simp only [putAll, Act.put, List.setIfInBounds_toArray, List.set_cons_zero, List.set_cons_succ] at HJ1_2_4_6_7_9
  refine join_ (σ := Nat × Nat) 3 #[true, true, true, true, true, true, true, true, true, false, false, false] (fun s => [(8, Value.slice (some ⟨s.1, 0, none⟩) 1 1), (9, Value.agg (kv (ofL [x]))), (13, Value.slice (some ⟨s.2, 0, none⟩) 1 1), (14, Value.agg (kv (ofL [y]))), (11, Value.agg (kv (addRow (ofL [x]) k)))]) (fun s w' => NC W1 x y true true s.1 s.2 w') ?_ (fun HJ1_2_4_6_7 => ?_)
  · intro s w' hF
    have hHeld := hF.bel
    refine norm_ (a' := ?_) ?_ ?_
    rotate_left
    · (try unfold Act.put); simp only [putAll, Act.put, List.setIfInBounds_toArray, List.set_cons_zero, List.set_cons_succ]
      rfl
    refine one_ (i := 9) (N := some 16) #[true, true, true, true, true, true, true, true, true, true, false, false] rfl rfl (by kernel_rfl) (by decide) (fun K hK => ?_)
    refine goes_ Try.func16 (by kernel_rfl) rfl #[.agg (kv (ofL [y])), .agg (cv k).toArray] (by rfl) rfl rfl (by (try simp only [List.map_toArray, List.map_cons, List.map_nil]); first | done | rfl) ?_
    refine (rdist_any (ofL [y]) k _ (ofL_length _) hk.len).mono ?_
    rintro e w3 ⟨rfl, hb⟩
    refine ⟨_, rfl, ?_⟩
    have hF2 := hF.keep hb
    refine hK.out _ _ hF2.bel (fun _ => ?_)
    clear hK K
    refine norm_ (a' := ?_) ?_ ?_
    rotate_left
    · (try unfold Act.put); simp only [putAll, Act.put, List.setIfInBounds_toArray, List.set_cons_zero, List.set_cons_succ]
      rfl
    exact HJ1_2_4_6_7_9 s _ hF2
  simp only [putAll, Act.put, List.setIfInBounds_toArray, List.set_cons_zero, List.set_cons_succ] at HJ1_2_4_6_7
  refine join_ (σ := Nat × Nat) 4 #[true, true, true, true, true, true, true, false, true, false, false, false] (fun s => [(8, Value.slice (some ⟨s.1, 0, none⟩) 1 1), (9, Value.agg (kv (ofL [x]))), (13, Value.slice (some ⟨s.2, 0, none⟩) 1 1), (11, Value.agg (kv (addRow (ofL [x]) k)))]) (fun s w' => NC W1 x y true true s.1 s.2 w') ?_ (fun HJ1_2_4_6 => ?_)
  · intro s w' hF
    have hHeld := hF.bel
    refine norm_ (a' := ?_) ?_ ?_
    rotate_left
    · (try unfold Act.put); simp only [putAll, Act.put, List.setIfInBounds_toArray, List.set_cons_zero, List.set_cons_succ]
      rfl
    refine one_ (i := 7) (N := some 14) #[true, true, true, true, true, true, true, true, true, false, false, false] rfl rfl (by kernel_rfl) (by decide) (fun K hK => ?_)
    refine goes_ Try.func15 (by kernel_rfl) rfl #[.slice (some ⟨s.2, 0, none⟩) 1 1] (by rfl) rfl rfl (by (try simp only [List.map_toArray, List.map_cons, List.map_nil]); first | done | rfl) ?_
    refine (of_oneR (hF.b rfl)).mono ?_
    rintro e w3 ⟨rfl, hb⟩
    refine ⟨_, rfl, ?_⟩
    have hF2 := hF.keep hb
    refine hK.out _ _ hF2.bel (fun _ => ?_)
    clear hK K
    refine norm_ (a' := ?_) ?_ ?_
    rotate_left
    · (try unfold Act.put); simp only [putAll, Act.put, List.setIfInBounds_toArray, List.set_cons_zero, List.set_cons_succ]
      rfl
    exact HJ1_2_4_6_7 s _ hF2
  simp only [putAll, Act.put, List.setIfInBounds_toArray, List.set_cons_zero, List.set_cons_succ] at HJ1_2_4_6
  refine join_ (σ := Nat × Nat) 5 #[true, true, true, true, false, true, true, false, true, false, false, false] (fun s => [(8, Value.slice (some ⟨s.1, 0, none⟩) 1 1), (9, Value.agg (kv (ofL [x]))), (13, Value.slice (some ⟨s.2, 0, none⟩) 1 1)]) (fun s w' => NC W1 x y true true s.1 s.2 w') ?_ (fun HJ1_2_6 => ?_)
  · intro s w' hF
    have hHeld := hF.bel
    refine norm_ (a' := ?_) ?_ ?_
    rotate_left
    · (try unfold Act.put); simp only [putAll, Act.put, List.setIfInBounds_toArray, List.set_cons_zero, List.set_cons_succ]
      rfl
    refine one_ (i := 4) (N := some 11) #[true, true, true, true, true, true, true, false, true, false, false, false] rfl rfl (by kernel_rfl) (by decide) (fun K hK => ?_)
    refine goes_ Try.func16 (by kernel_rfl) rfl #[.agg (kv (ofL [x])), .agg (cv k).toArray] (by rfl) rfl rfl (by (try simp only [List.map_toArray, List.map_cons, List.map_nil]); first | done | rfl) ?_
    refine (rdist_any (ofL [x]) k _ (ofL_length _) hk.len).mono ?_
    rintro e w3 ⟨rfl, hb⟩
    refine ⟨_, rfl, ?_⟩
    have hF2 := hF.keep hb
    refine hK.out _ _ hF2.bel (fun _ => ?_)
    clear hK K
    refine norm_ (a' := ?_) ?_ ?_
    rotate_left
    · (try unfold Act.put); simp only [putAll, Act.put, List.setIfInBounds_toArray, List.set_cons_zero, List.set_cons_succ]
      rfl
    exact HJ1_2_4_6 s _ hF2
  simp only [putAll, Act.put, List.setIfInBounds_toArray, List.set_cons_zero, List.set_cons_succ] at HJ1_2_6
  refine join_ (σ := Nat × Nat) 5 #[true, true, true, true, true, true, false, false, true, false, false, false] (fun s => [(8, Value.slice (some ⟨s.1, 0, none⟩) 1 1), (9, Value.agg (kv (ofL [x]))), (11, Value.agg (kv (addRow (ofL [x]) k)))]) (fun s w' => NC W1 x y true false s.1 s.2 w') ?_ (fun HJ1_2_4 => ?_)
  · intro s w' hF
    have hHeld := hF.bel
    refine norm_ (a' := ?_) ?_ ?_
    rotate_left
    · (try unfold Act.put); simp only [putAll, Act.put, List.setIfInBounds_toArray, List.set_cons_zero, List.set_cons_succ]
      rfl
    refine one_ (i := 6) (N := some 13) #[true, true, true, true, true, true, true, false, true, false, false, false] rfl rfl (by kernel_rfl) (by decide) (fun K hK => ?_)
    have hF2 := hF.buildB
    refine value_ (by rfl) rfl (exec_buildInt _ y (.tmp 12) rfl rfl) ?_
    refine hK.out _ _ hF2.bel (fun _ => ?_)
    clear hK K
    refine norm_ (a' := ?_) ?_ ?_
    rotate_left
    · (try unfold Act.put); simp only [putAll, Act.put, List.setIfInBounds_toArray, List.set_cons_zero, List.set_cons_succ]
      rfl
    exact HJ1_2_4_6 (s.1, w'.heap.size) _ hF2
  simp only [putAll, Act.put, List.setIfInBounds_toArray, List.set_cons_zero, List.set_cons_succ] at HJ1_2_4
  refine join_ (σ := Nat × Nat) 6 #[true, true, true, true, false, true, false, false, true, false, false, false] (fun s => [(8, Value.slice (some ⟨s.1, 0, none⟩) 1 1), (9, Value.agg (kv (ofL [x])))]) (fun s w' => NC W1 x y true false s.1 s.2 w') ?_ (fun HJ1_2 => ?_)
  · intro s w' hF
    have hHeld := hF.bel
    refine norm_ (a' := ?_) ?_ ?_
    rotate_left
    · (try unfold Act.put); simp only [putAll, Act.put, List.setIfInBounds_toArray, List.set_cons_zero, List.set_cons_succ]
      rfl
    refine two_ (i := 4) (j := 6) (Ni := some 11) (Nj := some 13) #[true, true, true, true, true, true, false, false, true, false, false, false] #[true, true, true, true, false, true, true, false, true, false, false, false] rfl rfl rfl rfl (by kernel_rfl) (by decide) (by decide) (fun K hK => ?_) (fun K hK => ?_)
    · refine goes_ Try.func16 (by kernel_rfl) rfl #[.agg (kv (ofL [x])), .agg (cv k).toArray] (by rfl) rfl rfl (by (try simp only [List.map_toArray, List.map_cons, List.map_nil]); first | done | rfl) ?_
      refine (rdist_any (ofL [x]) k _ (ofL_length _) hk.len).mono ?_
      rintro e w3 ⟨rfl, hb⟩
      refine ⟨_, rfl, ?_⟩
      have hF2 := hF.keep hb
      refine hK.out _ _ hF2.bel (fun _ => ?_)
      clear hK K
      refine norm_ (a' := ?_) ?_ ?_
      rotate_left
      · (try unfold Act.put); simp only [putAll, Act.put, List.setIfInBounds_toArray, List.set_cons_zero, List.set_cons_succ]
        rfl
      exact HJ1_2_4 s _ hF2
    · have hF2 := hF.buildB
      refine value_ (by rfl) rfl (exec_buildInt _ y (.tmp 12) rfl rfl) ?_
      refine hK.out _ _ hF2.bel (fun _ => ?_)
      clear hK K
      refine norm_ (a' := ?_) ?_ ?_
      rotate_left
      · (try unfold Act.put); simp only [putAll, Act.put, List.setIfInBounds_toArray, List.set_cons_zero, List.set_cons_succ]
        rfl
      exact HJ1_2_6 (s.1, w'.heap.size) _ hF2
  simp only [putAll, Act.put, List.setIfInBounds_toArray, List.set_cons_zero, List.set_cons_succ] at HJ1_2
  refine join_ (σ := Nat × Nat) 6 #[true, true, false, true, false, true, true, false, true, false, false, false] (fun s => [(8, Value.slice (some ⟨s.1, 0, none⟩) 1 1), (13, Value.slice (some ⟨s.2, 0, none⟩) 1 1)]) (fun s w' => NC W1 x y true true s.1 s.2 w') ?_ (fun HJ1_6 => ?_)
  · intro s w' hF
    have hHeld := hF.bel
    refine norm_ (a' := ?_) ?_ ?_
    rotate_left
    · (try unfold Act.put); simp only [putAll, Act.put, List.setIfInBounds_toArray, List.set_cons_zero, List.set_cons_succ]
      rfl
    refine one_ (i := 2) (N := some 9) #[true, true, true, true, false, true, true, false, true, false, false, false] rfl rfl (by kernel_rfl) (by decide) (fun K hK => ?_)
    refine goes_ Try.func15 (by kernel_rfl) rfl #[.slice (some ⟨s.1, 0, none⟩) 1 1] (by rfl) rfl rfl (by (try simp only [List.map_toArray, List.map_cons, List.map_nil]); first | done | rfl) ?_
    refine (of_oneR (hF.a rfl)).mono ?_
    rintro e w3 ⟨rfl, hb⟩
    refine ⟨_, rfl, ?_⟩
    have hF2 := hF.keep hb
    refine hK.out _ _ hF2.bel (fun _ => ?_)
    clear hK K
    refine norm_ (a' := ?_) ?_ ?_
    rotate_left
    · (try unfold Act.put); simp only [putAll, Act.put, List.setIfInBounds_toArray, List.set_cons_zero, List.set_cons_succ]
      rfl
    exact HJ1_2_6 s _ hF2
  simp only [putAll, Act.put, List.setIfInBounds_toArray, List.set_cons_zero, List.set_cons_succ] at HJ1_6
  refine join_ (σ := Nat × Nat) 7 #[true, true, false, true, false, true, false, false, true, false, false, false] (fun s => [(8, Value.slice (some ⟨s.1, 0, none⟩) 1 1)]) (fun s w' => NC W1 x y true false s.1 s.2 w') ?_ (fun HJ1 => ?_)
  · intro s w' hF
    have hHeld := hF.bel
    refine norm_ (a' := ?_) ?_ ?_
    rotate_left
    · (try unfold Act.put); simp only [putAll, Act.put, List.setIfInBounds_toArray, List.set_cons_zero, List.set_cons_succ]
      rfl
    refine two_ (i := 2) (j := 6) (Ni := some 9) (Nj := some 13) #[true, true, true, true, false, true, false, false, true, false, false, false] #[true, true, false, true, false, true, true, false, true, false, false, false] rfl rfl rfl rfl (by kernel_rfl) (by decide) (by decide) (fun K hK => ?_) (fun K hK => ?_)
    · refine goes_ Try.func15 (by kernel_rfl) rfl #[.slice (some ⟨s.1, 0, none⟩) 1 1] (by rfl) rfl rfl (by (try simp only [List.map_toArray, List.map_cons, List.map_nil]); first | done | rfl) ?_
      refine (of_oneR (hF.a rfl)).mono ?_
      rintro e w3 ⟨rfl, hb⟩
      refine ⟨_, rfl, ?_⟩
      have hF2 := hF.keep hb
      refine hK.out _ _ hF2.bel (fun _ => ?_)
      clear hK K
      refine norm_ (a' := ?_) ?_ ?_
      rotate_left
      · (try unfold Act.put); simp only [putAll, Act.put, List.setIfInBounds_toArray, List.set_cons_zero, List.set_cons_succ]
        rfl
      exact HJ1_2 s _ hF2
    · have hF2 := hF.buildB
      refine value_ (by rfl) rfl (exec_buildInt _ y (.tmp 12) rfl rfl) ?_
      refine hK.out _ _ hF2.bel (fun _ => ?_)
      clear hK K
      refine norm_ (a' := ?_) ?_ ?_
      rotate_left
      · (try unfold Act.put); simp only [putAll, Act.put, List.setIfInBounds_toArray, List.set_cons_zero, List.set_cons_succ]
        rfl
      exact HJ1_6 (s.1, w'.heap.size) _ hF2
  simp only [putAll, Act.put, List.setIfInBounds_toArray, List.set_cons_zero, List.set_cons_succ] at HJ1
  refine join_ (σ := Nat × Nat) 7 #[true, false, false, true, false, true, true, false, true, false, false, false] (fun s => [(13, Value.slice (some ⟨s.2, 0, none⟩) 1 1)]) (fun s w' => NC W1 x y false true s.1 s.2 w') ?_ (fun HJ6 => ?_)
  · intro s w' hF
    have hHeld := hF.bel
    refine norm_ (a' := ?_) ?_ ?_
    rotate_left
    · (try unfold Act.put); simp only [putAll, Act.put, List.setIfInBounds_toArray, List.set_cons_zero, List.set_cons_succ]
      rfl
    refine one_ (i := 1) (N := some 8) #[true, true, false, true, false, true, true, false, true, false, false, false] rfl rfl (by kernel_rfl) (by decide) (fun K hK => ?_)
    have hF2 := hF.buildA
    refine value_ (by rfl) rfl (exec_buildInt _ x (.tmp 7) rfl rfl) ?_
    refine hK.out _ _ hF2.bel (fun _ => ?_)
    clear hK K
    refine norm_ (a' := ?_) ?_ ?_
    rotate_left
    · (try unfold Act.put); simp only [putAll, Act.put, List.setIfInBounds_toArray, List.set_cons_zero, List.set_cons_succ]
      rfl
    exact HJ1_6 (w'.heap.size, s.2) _ hF2
  simp only [putAll, Act.put, List.setIfInBounds_toArray, List.set_cons_zero, List.set_cons_succ] at HJ6
  refine join_ (σ := Nat × Nat) 8 #[true, false, false, true, false, true, false, false, true, false, false, false] (fun s => []) (fun s w' => NC W1 x y false false s.1 s.2 w') ?_ (fun HJ0 => ?_)
  · intro s w' hF
    have hHeld := hF.bel
    refine norm_ (a' := ?_) ?_ ?_
    rotate_left
    · (try unfold Act.put); simp only [putAll, Act.put, List.setIfInBounds_toArray, List.set_cons_zero, List.set_cons_succ]
      rfl
    refine two_ (i := 1) (j := 6) (Ni := some 8) (Nj := some 13) #[true, true, false, true, false, true, false, false, true, false, false, false] #[true, false, false, true, false, true, true, false, true, false, false, false] rfl rfl rfl rfl (by kernel_rfl) (by decide) (by decide) (fun K hK => ?_) (fun K hK => ?_)
    · have hF2 := hF.buildA
      refine value_ (by rfl) rfl (exec_buildInt _ x (.tmp 7) rfl rfl) ?_
      refine hK.out _ _ hF2.bel (fun _ => ?_)
      clear hK K
      refine norm_ (a' := ?_) ?_ ?_
      rotate_left
      · (try unfold Act.put); simp only [putAll, Act.put, List.setIfInBounds_toArray, List.set_cons_zero, List.set_cons_succ]
        rfl
      exact HJ1 (w'.heap.size, s.2) _ hF2
    · have hF2 := hF.buildB
      refine value_ (by rfl) rfl (exec_buildInt _ y (.tmp 12) rfl rfl) ?_
      refine hK.out _ _ hF2.bel (fun _ => ?_)
      clear hK K
      refine norm_ (a' := ?_) ?_ ?_
      rotate_left
      · (try unfold Act.put); simp only [putAll, Act.put, List.setIfInBounds_toArray, List.set_cons_zero, List.set_cons_succ]
        rfl
      exact HJ6 (s.1, w'.heap.size) _ hF2
  simp only [putAll, Act.put, List.setIfInBounds_toArray, List.set_cons_zero, List.set_cons_succ] at HJ0
  exact HJ0 (0, 0) _ hroot
end Go.Proofs.Ytbkcopejclcfdaa
