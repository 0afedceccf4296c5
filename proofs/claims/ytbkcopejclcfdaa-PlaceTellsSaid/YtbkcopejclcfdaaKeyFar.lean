/- KeyFar: the walk. PRINTED by keyfar.py and regionhand.py of this session. -/
import Derived.Test.YtbkcopejclcfdaaKeyHeld
namespace Go.Proofs.Ytbkcopejclcfdaa
open Go.RowKit Go.Proofs.YtbkcopejclcfdaaW.PrintWords Go.Proofs.YtbkcopejclcfdaaW.PrintLast Go.Proofs.Ytbkcopejclcfdaa.Sum Go.Proofs.Ytbkcopejclcfdaa.Rand
set_option linter.unusedVariables false
theorem far_start (w : World) (a b c : List Int) (w1 : World)
    (h : Below (((w.alloc (.cells (kv a) 23 (0, 0))).alloc (.cells (kv b) 23 (0, 0))).alloc (.cells (kv c) 23 (0, 0))).heap.size (((w.alloc (.cells (kv a) 23 (0, 0))).alloc (.cells (kv b) 23 (0, 0))).alloc (.cells (kv c) 23 (0, 0))) w1) :
    w1.heap[w.heap.size]? = some (.cells (kv a) 23 (0, 0)) ∧ w1.heap[w.heap.size + 1]? = some (.cells (kv b) 23 (0, 0)) ∧ Held w (cv a) (cv b) (cv c) w1 := by
  refine ⟨?_, ?_, held_start w a b c w1 h⟩
  · rw [h.block _ (by first | (simp; done) | (simp; omega)), heap_alloc_old _ _ (by simp; omega), heap_alloc2_old]
  · rw [h.block _ (by first | (simp; done) | (simp; omega)), heap_alloc_old _ _ (by simp), heap_alloc2_new]
/-- a fourth row beside the three -/
def Held4 (w : World) (a b c : List Value) (g : Nat) (d : List Value) (W : World) : Prop := Held w a b c W ∧ W.rangeAt g 0 d ∧ g < W.heap.size
section
variable {w W W' : World} {a b c d : List Value} {g : Nat}
theorem Held4.r0 (h : Held4 w a b c g d W) : W.rangeAt w.heap.size 0 a := h.1.r0
theorem Held4.r1 (h : Held4 w a b c g d W) : W.rangeAt (w.heap.size + 1) 0 b := h.1.r1
theorem Held4.r2 (h : Held4 w a b c g d W) : W.rangeAt (w.heap.size + 1 + 1) 0 c := h.1.r2
theorem Held4.r3 (h : Held4 w a b c g d W) : W.rangeAt g 0 d := h.2.1
theorem Held4.drew (h : Held4 w a b c g d W) : Held4 w a b c g d W.drew := ⟨h.1.drew, (World.rangeAt_drew _ _ _ _).2 h.2.1, h.2.2⟩
theorem Held4.keep (h : Held4 w a b c g d W) (hb : Below W.heap.size W W') : Held4 w a b c g d W' := ⟨h.1.keep hb, rangeAt_below hb h.2.2 h.2.1, Nat.lt_of_lt_of_le h.2.2 hb.size⟩
theorem dist_keep4 (x y : List Int) (hx : Key20 x) (hy : Key20 y) (h : Held4 w a b c g d W) :
    Calls Try.prog 13 #[.agg (kv x), .agg (kv y)] W fun e W' => e = .returned (.agg (kv (addRow x y))) ∧ Held4 w a b c g d W' :=
  (dist_any x y W hx.len hy.len).mono fun _ _ ⟨he, hb⟩ => ⟨he, h.keep hb⟩
end
/-- a row stored into a new block -/
theorem held4_set {w w2 : World} {a b c : List Value} (d : List Int) (h : Held w a b c w2) : Held4 w a b c w2.heap.size (cv d) ((w2.alloc (.cells zero20 23 (0, 0))).setRow w2.heap.size (kv d)) := by
  have hb : Below w2.heap.size w2 ((w2.alloc (.cells zero20 23 (0, 0))).setRow w2.heap.size (kv d)) := below_setRow ((Below.refl _ _).alloc (Nat.le_refl _) _) (Nat.le_refl _) _
  have hr := setRow_heap (w2.alloc (.cells zero20 23 (0, 0))) w2.heap.size zero20 (kv d) 23 (0, 0) (heap_alloc_new w2 _)
  exact ⟨h.keep hb, rangeAt_row hr, (Array.getElem?_eq_some_iff.1 hr).1⟩
set_option maxHeartbeats 4000000 in
theorem far_any (a b c : List Int) (w : World) (ha : Key20 a) (hb : Key20 b) (hc : Key20 c) (p : Bool) (h1 : addRow b a = addRow a b) (h2 : addRow a a = z20)
    (h3 : addRow (addRow a b) (addRow b c) = addRow a c) (h4 : decide (addRow a b = z20) = p) (h5 : decide (a = b) = p) :
    Calls Try.prog 3 #[.agg (kv a), .agg (kv b), .agg (kv c)] w fun e w' => e = .returned (.bool true) ∧ Below w.heap.size w w' := by
  have hs1 : (Try.prog.info? 23).map (·.size) = some (kv a).size := by rw [kv_size, ha.len]; exact info23
  have hs2 : (Try.prog.info? 23).map (·.size) = some (kv b).size := by rw [kv_size, hb.len]; exact info23
  have kd := key_addRow ha hb
  have kee := key_addRow hb hc
  have kf := key_addRow ha hc
  have hs3 : (Try.prog.info? 23).map (·.size) = some (kv (addRow a b)).size := by rw [kv_size, kd.len]; exact info23
  have hz3 : zero20.size = (kv (addRow a b)).size := by rw [kv_size, kd.len]; rfl
  have L8 := fun (W : World) => dist_any a b W ha.len hb.len
  have q1 := fun w : World => run_eql_key w (addRow a b) (addRow a b) kd.len kd.len
  have q2 := fun w : World => run_eql_key w z20 z20 z20_len z20_len
  have q3 := fun w : World => run_eql_key w (addRow a c) (addRow a c) kf.len kf.len
  have q4 := fun w : World => run_eql_key w (addRow a b) z20 kd.len z20_len
  have q5 := fun w : World => run_eql_key w a b ha.len hb.len
  rw [decide_eq_true rfl] at q1 q2 q3
  rw [h4] at q4
  rw [h5] at q5
  have M1 := fun (g : Nat) (W : World) (h : Held4 w (cv a) (cv b) (cv c) g (cv (addRow a b)) W) => dist_keep4 b a hb ha h
  have M2 := fun (g : Nat) (W : World) (h : Held4 w (cv a) (cv b) (cv c) g (cv (addRow a b)) W) => dist_keep4 a a ha ha h
  have M3 := fun (g : Nat) (W : World) (h : Held4 w (cv a) (cv b) (cv c) g (cv (addRow a b)) W) => dist_keep4 a b ha hb h
  have M4 := fun (g : Nat) (W : World) (h : Held4 w (cv a) (cv b) (cv c) g (cv (addRow a b)) W) => dist_keep4 b c hb hc h
  have M5 := fun (g : Nat) (W : World) (h : Held4 w (cv a) (cv b) (cv c) g (cv (addRow a b)) W) => dist_keep4 (addRow a b) (addRow b c) kd kee h
  have M6 := fun (g : Nat) (W : World) (h : Held4 w (cv a) (cv b) (cv c) g (cv (addRow a b)) W) => dist_keep4 a c ha hc h
  rw [h1] at M1
  rw [h2] at M2
  rw [h3] at M5
  rw [kv_cv (addRow a b)] at q1 q4 M1 M3 M5
  rw [kv_cv (addRow b c)] at M4 M5
  rw [kv_cv (addRow a c)] at q3 M5 M6
  rw [kv_cv a] at q5 M1 M2 M3 M6
  rw [kv_cv b] at q5 M1 M3 M4
  rw [kv_cv c] at M4 M6
  rw [← zero20_kv] at q2 q4 M2
  unfold zero20 at q2 q4 M2
  go_enter Try.func3, Try.ntmps3
  go_wp2_with (first | (go_at_call 12; refine (alive_any _).mono ?_; rintro e w1 ⟨rfl, b1⟩; obtain ⟨e1, e2, s0⟩ := far_start w a b c w1 b1; clear b1) | (refine wpList_load_row rfl 23 (.tmp 3) rfl w.heap.size rfl 23 (kv a) (0, 0) _ e1 Try.underlying23 rfl hs1 ?_) | (refine wpList_load_row rfl 23 (.tmp 4) rfl (w.heap.size + 1) rfl 23 (kv b) (0, 0) _ e2 Try.underlying23 rfl hs2 ?_) | (go_at_call 13; refine (L8 _).mono ?_; rintro e w2 ⟨rfl, b2⟩; replace s0 := s0.keep b2) | (refine wpList_store_row rfl 23 (.tmp 8) (.tmp 15) rfl w2.heap.size rfl (kv (addRow a b)) rfl 23 zero20 (heap_alloc_new w2 _) hs3 hz3 (kv_one _) ?_))
  have s1 := held4_set (addRow a b) s0
  unfold zero20 at s1
  generalize World.setRow _ _ (kv (addRow a b)) = w4 at s1 ⊢
  generalize w2.heap.size = g at s1 ⊢
  replace M1 := M1 g
  replace M2 := M2 g
  replace M3 := M3 g
  replace M4 := M4 g
  replace M5 := M5 g
  replace M6 := M6 g
  simp only [Act.put]
  have hu := Try.underlying23
  have i1 : (Try.prog.info? 23).map (·.size) = some (cv a).length := by rw [cv_length, ha.len]; exact info23
  have i2 : (Try.prog.info? 23).map (·.size) = some (cv b).length := by rw [cv_length, hb.len]; exact info23
  have i3 : (Try.prog.info? 23).map (·.size) = some (cv c).length := by rw [cv_length, hc.len]; exact info23
  have i4 : (Try.prog.info? 23).map (·.size) = some (cv (addRow a b)).length := by rw [cv_length, kd.len]; exact info23
  clear ha hb hc kd kee kf h1 h2 h3 h4 h5 hs1 hs2 hs3 hz3 L8 e1 e2 s0 b2
  generalize cv (addRow a b) = D at *
  generalize cv (addRow b c) = E at *
  generalize cv (addRow a c) = F at *
  generalize cv a = A at *
  generalize cv b = B at *
  generalize cv c = C at *
  refine start_ (n := 35) (S := Held4 w A B C g D) (ds := []) #[false, false, false, false, false, false, false, false, false, false, false, false, false, false, false, false, false, false, false, false, false, false, false, false, false, false, false, false, false, false, false, false, false, false, false] (by kernel_rfl) rfl rfl (s1.drew) (fun hHeld => ?_)
  generalize w4.drew = w5 at hHeld ⊢
  refine take_ (i := 0) (N := some 16) (v := .agg D.toArray) (a' := ?_) #[true, false, false, false, false, false, false, false, false, false, false, false, false, false, false, false, false, false, false, false, false, false, false, false, false, false, false, false, false, false, false, false, false, false, false] rfl rfl (by kernel_rfl) (fun _ _ _ h => h) (yieldsIf_load_mid (by rfl) _ _ rfl _ _ rfl _ _ (fun w' s => Held4.r3 s) hu rfl i4) hHeld ?_ ?_
  rotate_left
  · simp only [Act.put, List.setIfInBounds_toArray, List.set_cons_zero, List.set_cons_succ]
    rfl
  refine take_ (i := 1) (N := some 17) (v := .agg B.toArray) (a' := ?_) #[true, true, false, false, false, false, false, false, false, false, false, false, false, false, false, false, false, false, false, false, false, false, false, false, false, false, false, false, false, false, false, false, false, false, false] rfl rfl (by kernel_rfl) (fun _ _ _ h => h) (yieldsIf_load_mid (by rfl) _ _ rfl _ _ rfl _ _ (fun w' s => Held4.r1 s) hu rfl i2) hHeld ?_ ?_
  rotate_left
  · simp only [Act.put, List.setIfInBounds_toArray, List.set_cons_zero, List.set_cons_succ]
    rfl
  refine take_ (i := 2) (N := some 18) (v := .agg A.toArray) (a' := ?_) #[true, true, true, false, false, false, false, false, false, false, false, false, false, false, false, false, false, false, false, false, false, false, false, false, false, false, false, false, false, false, false, false, false, false, false] rfl rfl (by kernel_rfl) (fun _ _ _ h => h) (yieldsIf_load_mid (by rfl) _ _ rfl _ _ rfl _ _ (fun w' s => Held4.r0 s) hu rfl i1) hHeld ?_ ?_
  rotate_left
  · simp only [Act.put, List.setIfInBounds_toArray, List.set_cons_zero, List.set_cons_succ]
    rfl
  refine one_ (i := 3) (N := some 19) #[true, true, true, true, false, false, false, false, false, false, false, false, false, false, false, false, false, false, false, false, false, false, false, false, false, false, false, false, false, false, false, false, false, false, false] rfl rfl (by kernel_rfl) (by decide) (fun K hK => ?_)
  refine goes_ Try.func13 (by kernel_rfl) rfl #[.agg B.toArray, .agg A.toArray] (by rfl) rfl rfl (by (try simp only [List.map_toArray, List.map_cons, List.map_nil]); first | done | rfl) ?_
  refine (M1 _ hHeld).mono ?_
  rintro e w3 ⟨rfl, hHeld⟩
  refine ⟨_, rfl, ?_⟩
  refine hK.out _ _ hHeld (fun hHeld => ?_)
  clear hK K
  refine norm_ (a' := ?_) ?_ ?_
  rotate_left
  · show Act.put _ (some 19) _ = _
    simp only [Act.put, List.setIfInBounds_toArray, List.set_cons_zero, List.set_cons_succ]
    rfl
  refine pure_ (i := 4) (N := some 20) (v := ?_) (a' := ?_) #[true, true, true, true, true, false, false, false, false, false, false, false, false, false, false, false, false, false, false, false, false, false, false, false, false, false, false, false, false, false, false, false, false, false, false] rfl rfl (by kernel_rfl) (fun _ _ _ h => h) (Or.inl ⟨by rfl, ?_⟩) ?_ ?_
  rotate_left
  · intro w'
    go_simp
    with_reducible rfl
  rotate_left
  · simp only [Act.put, List.setIfInBounds_toArray, List.set_cons_zero, List.set_cons_succ]
    rfl
  refine pure_ (i := 5) (N := some 21) (v := ?_) (a' := ?_) #[true, true, true, true, true, true, false, false, false, false, false, false, false, false, false, false, false, false, false, false, false, false, false, false, false, false, false, false, false, false, false, false, false, false, false] rfl rfl (by kernel_rfl) (fun _ _ _ h => h) (Or.inl ⟨by rfl, ?_⟩) ?_ ?_
  rotate_left
  · intro w'
    go_simp
    with_reducible rfl
  rotate_left
  · simp only [Act.put, List.setIfInBounds_toArray, List.set_cons_zero, List.set_cons_succ]
    rfl
  refine take_ (i := 6) (N := some 22) (v := .agg A.toArray) (a' := ?_) #[true, true, true, true, true, true, true, false, false, false, false, false, false, false, false, false, false, false, false, false, false, false, false, false, false, false, false, false, false, false, false, false, false, false, false] rfl rfl (by kernel_rfl) (fun _ _ _ h => h) (yieldsIf_load_mid (by rfl) _ _ rfl _ _ rfl _ _ (fun w' s => Held4.r0 s) hu rfl i1) hHeld ?_ ?_
  rotate_left
  · simp only [Act.put, List.setIfInBounds_toArray, List.set_cons_zero, List.set_cons_succ]
    rfl
  refine take_ (i := 7) (N := some 23) (v := .agg A.toArray) (a' := ?_) #[true, true, true, true, true, true, true, true, false, false, false, false, false, false, false, false, false, false, false, false, false, false, false, false, false, false, false, false, false, false, false, false, false, false, false] rfl rfl (by kernel_rfl) (fun _ _ _ h => h) (yieldsIf_load_mid (by rfl) _ _ rfl _ _ rfl _ _ (fun w' s => Held4.r0 s) hu rfl i1) hHeld ?_ ?_
  rotate_left
  · simp only [Act.put, List.setIfInBounds_toArray, List.set_cons_zero, List.set_cons_succ]
    rfl
  refine pure_ (i := 9) (N := some 25) (v := ?_) (a' := ?_) #[true, true, true, true, true, true, true, true, false, true, false, false, false, false, false, false, false, false, false, false, false, false, false, false, false, false, false, false, false, false, false, false, false, false, false] rfl rfl (by kernel_rfl) (fun _ _ _ h => h) (Or.inl ⟨by rfl, ?_⟩) ?_ ?_
  rotate_left
  · intro w'
    go_simp
    with_reducible rfl
  rotate_left
  · simp only [Act.put, List.setIfInBounds_toArray, List.set_cons_zero, List.set_cons_succ]
    rfl
  refine one_ (i := 8) (N := some 24) #[true, true, true, true, true, true, true, true, true, true, false, false, false, false, false, false, false, false, false, false, false, false, false, false, false, false, false, false, false, false, false, false, false, false, false] rfl rfl (by kernel_rfl) (by decide) (fun K hK => ?_)
  refine goes_ Try.func13 (by kernel_rfl) rfl #[.agg A.toArray, .agg A.toArray] (by rfl) rfl rfl (by (try simp only [List.map_toArray, List.map_cons, List.map_nil]); first | done | rfl) ?_
  refine (M2 _ hHeld).mono ?_
  rintro e w3 ⟨rfl, hHeld⟩
  refine ⟨_, rfl, ?_⟩
  refine hK.out _ _ hHeld (fun hHeld => ?_)
  clear hK K
  refine norm_ (a' := ?_) ?_ ?_
  rotate_left
  · show Act.put _ (some 24) _ = _
    simp only [Act.put, List.setIfInBounds_toArray, List.set_cons_zero, List.set_cons_succ]
    rfl
  refine pure_ (i := 10) (N := some 26) (v := ?_) (a' := ?_) #[true, true, true, true, true, true, true, true, true, true, true, false, false, false, false, false, false, false, false, false, false, false, false, false, false, false, false, false, false, false, false, false, false, false, false] rfl rfl (by kernel_rfl) (fun _ _ _ h => h) (Or.inl ⟨by rfl, ?_⟩) ?_ ?_
  rotate_left
  · intro w'
    go_simp
    with_reducible rfl
  rotate_left
  · simp only [Act.put, List.setIfInBounds_toArray, List.set_cons_zero, List.set_cons_succ]
    rfl
  refine pure_ (i := 11) (N := some 27) (v := ?_) (a' := ?_) #[true, true, true, true, true, true, true, true, true, true, true, true, false, false, false, false, false, false, false, false, false, false, false, false, false, false, false, false, false, false, false, false, false, false, false] rfl rfl (by kernel_rfl) (fun _ _ _ h => h) (Or.inl ⟨by rfl, ?_⟩) ?_ ?_
  rotate_left
  · intro w'
    go_simp
    with_reducible rfl
  rotate_left
  · simp only [Act.put, List.setIfInBounds_toArray, List.set_cons_zero, List.set_cons_succ]
    rfl
  refine pure_ (i := 12) (N := some 28) (v := ?_) (a' := ?_) #[true, true, true, true, true, true, true, true, true, true, true, true, true, false, false, false, false, false, false, false, false, false, false, false, false, false, false, false, false, false, false, false, false, false, false] rfl rfl (by kernel_rfl) (fun _ _ _ h => h) (Or.inl ⟨by rfl, ?_⟩) ?_ ?_
  rotate_left
  · intro w'
    go_simp
    with_reducible rfl
  rotate_left
  · simp only [Act.put, List.setIfInBounds_toArray, List.set_cons_zero, List.set_cons_succ]
    rfl
  refine take_ (i := 13) (N := some 29) (v := .agg A.toArray) (a' := ?_) #[true, true, true, true, true, true, true, true, true, true, true, true, true, true, false, false, false, false, false, false, false, false, false, false, false, false, false, false, false, false, false, false, false, false, false] rfl rfl (by kernel_rfl) (fun _ _ _ h => h) (yieldsIf_load_mid (by rfl) _ _ rfl _ _ rfl _ _ (fun w' s => Held4.r0 s) hu rfl i1) hHeld ?_ ?_
  rotate_left
  · simp only [Act.put, List.setIfInBounds_toArray, List.set_cons_zero, List.set_cons_succ]
    rfl
  refine take_ (i := 14) (N := some 30) (v := .agg B.toArray) (a' := ?_) #[true, true, true, true, true, true, true, true, true, true, true, true, true, true, true, false, false, false, false, false, false, false, false, false, false, false, false, false, false, false, false, false, false, false, false] rfl rfl (by kernel_rfl) (fun _ _ _ h => h) (yieldsIf_load_mid (by rfl) _ _ rfl _ _ rfl _ _ (fun w' s => Held4.r1 s) hu rfl i2) hHeld ?_ ?_
  rotate_left
  · simp only [Act.put, List.setIfInBounds_toArray, List.set_cons_zero, List.set_cons_succ]
    rfl
  refine take_ (i := 16) (N := some 32) (v := .agg B.toArray) (a' := ?_) #[true, true, true, true, true, true, true, true, true, true, true, true, true, true, true, false, true, false, false, false, false, false, false, false, false, false, false, false, false, false, false, false, false, false, false] rfl rfl (by kernel_rfl) (fun _ _ _ h => h) (yieldsIf_load_mid (by rfl) _ _ rfl _ _ rfl _ _ (fun w' s => Held4.r1 s) hu rfl i2) hHeld ?_ ?_
  rotate_left
  · simp only [Act.put, List.setIfInBounds_toArray, List.set_cons_zero, List.set_cons_succ]
    rfl
  refine take_ (i := 17) (N := some 33) (v := .agg C.toArray) (a' := ?_) #[true, true, true, true, true, true, true, true, true, true, true, true, true, true, true, false, true, true, false, false, false, false, false, false, false, false, false, false, false, false, false, false, false, false, false] rfl rfl (by kernel_rfl) (fun _ _ _ h => h) (yieldsIf_load_mid (by rfl) _ _ rfl _ _ rfl _ _ (fun w' s => Held4.r2 s) hu rfl i3) hHeld ?_ ?_
  rotate_left
  · simp only [Act.put, List.setIfInBounds_toArray, List.set_cons_zero, List.set_cons_succ]
    rfl
  refine take_ (i := 20) (N := some 36) (v := .agg A.toArray) (a' := ?_) #[true, true, true, true, true, true, true, true, true, true, true, true, true, true, true, false, true, true, false, false, true, false, false, false, false, false, false, false, false, false, false, false, false, false, false] rfl rfl (by kernel_rfl) (fun _ _ _ h => h) (yieldsIf_load_mid (by rfl) _ _ rfl _ _ rfl _ _ (fun w' s => Held4.r0 s) hu rfl i1) hHeld ?_ ?_
  rotate_left
  · simp only [Act.put, List.setIfInBounds_toArray, List.set_cons_zero, List.set_cons_succ]
    rfl
  refine take_ (i := 21) (N := some 37) (v := .agg C.toArray) (a' := ?_) #[true, true, true, true, true, true, true, true, true, true, true, true, true, true, true, false, true, true, false, false, true, true, false, false, false, false, false, false, false, false, false, false, false, false, false] rfl rfl (by kernel_rfl) (fun _ _ _ h => h) (yieldsIf_load_mid (by rfl) _ _ rfl _ _ rfl _ _ (fun w' s => Held4.r2 s) hu rfl i3) hHeld ?_ ?_
  rotate_left
  · simp only [Act.put, List.setIfInBounds_toArray, List.set_cons_zero, List.set_cons_succ]
    rfl
  refine one_ (i := 15) (N := some 31) #[true, true, true, true, true, true, true, true, true, true, true, true, true, true, true, true, true, true, false, false, true, true, false, false, false, false, false, false, false, false, false, false, false, false, false] rfl rfl (by kernel_rfl) (by decide) (fun K hK => ?_)
  refine goes_ Try.func13 (by kernel_rfl) rfl #[.agg A.toArray, .agg B.toArray] (by rfl) rfl rfl (by (try simp only [List.map_toArray, List.map_cons, List.map_nil]); first | done | rfl) ?_
  refine (M3 _ hHeld).mono ?_
  rintro e w3 ⟨rfl, hHeld⟩
  refine ⟨_, rfl, ?_⟩
  refine hK.out _ _ hHeld (fun hHeld => ?_)
  clear hK K
  refine norm_ (a' := ?_) ?_ ?_
  rotate_left
  · show Act.put _ (some 31) _ = _
    simp only [Act.put, List.setIfInBounds_toArray, List.set_cons_zero, List.set_cons_succ]
    rfl
  refine one_ (i := 18) (N := some 34) #[true, true, true, true, true, true, true, true, true, true, true, true, true, true, true, true, true, true, true, false, true, true, false, false, false, false, false, false, false, false, false, false, false, false, false] rfl rfl (by kernel_rfl) (by decide) (fun K hK => ?_)
  refine goes_ Try.func13 (by kernel_rfl) rfl #[.agg B.toArray, .agg C.toArray] (by rfl) rfl rfl (by (try simp only [List.map_toArray, List.map_cons, List.map_nil]); first | done | rfl) ?_
  refine (M4 _ hHeld).mono ?_
  rintro e w3 ⟨rfl, hHeld⟩
  refine ⟨_, rfl, ?_⟩
  refine hK.out _ _ hHeld (fun hHeld => ?_)
  clear hK K
  refine norm_ (a' := ?_) ?_ ?_
  rotate_left
  · show Act.put _ (some 34) _ = _
    simp only [Act.put, List.setIfInBounds_toArray, List.set_cons_zero, List.set_cons_succ]
    rfl
  refine one_ (i := 19) (N := some 35) #[true, true, true, true, true, true, true, true, true, true, true, true, true, true, true, true, true, true, true, true, true, true, false, false, false, false, false, false, false, false, false, false, false, false, false] rfl rfl (by kernel_rfl) (by decide) (fun K hK => ?_)
  refine goes_ Try.func13 (by kernel_rfl) rfl #[.agg D.toArray, .agg E.toArray] (by rfl) rfl rfl (by (try simp only [List.map_toArray, List.map_cons, List.map_nil]); first | done | rfl) ?_
  refine (M5 _ hHeld).mono ?_
  rintro e w3 ⟨rfl, hHeld⟩
  refine ⟨_, rfl, ?_⟩
  refine hK.out _ _ hHeld (fun hHeld => ?_)
  clear hK K
  refine norm_ (a' := ?_) ?_ ?_
  rotate_left
  · show Act.put _ (some 35) _ = _
    simp only [Act.put, List.setIfInBounds_toArray, List.set_cons_zero, List.set_cons_succ]
    rfl
  refine one_ (i := 22) (N := some 38) #[true, true, true, true, true, true, true, true, true, true, true, true, true, true, true, true, true, true, true, true, true, true, true, false, false, false, false, false, false, false, false, false, false, false, false] rfl rfl (by kernel_rfl) (by decide) (fun K hK => ?_)
  refine goes_ Try.func13 (by kernel_rfl) rfl #[.agg A.toArray, .agg C.toArray] (by rfl) rfl rfl (by (try simp only [List.map_toArray, List.map_cons, List.map_nil]); first | done | rfl) ?_
  refine (M6 _ hHeld).mono ?_
  rintro e w3 ⟨rfl, hHeld⟩
  refine ⟨_, rfl, ?_⟩
  refine hK.out _ _ hHeld (fun hHeld => ?_)
  clear hK K
  refine norm_ (a' := ?_) ?_ ?_
  rotate_left
  · show Act.put _ (some 38) _ = _
    simp only [Act.put, List.setIfInBounds_toArray, List.set_cons_zero, List.set_cons_succ]
    rfl
  refine pure_ (i := 23) (N := some 39) (v := ?_) (a' := ?_) #[true, true, true, true, true, true, true, true, true, true, true, true, true, true, true, true, true, true, true, true, true, true, true, true, false, false, false, false, false, false, false, false, false, false, false] rfl rfl (by kernel_rfl) (fun _ _ _ h => h) (Or.inl ⟨by rfl, ?_⟩) ?_ ?_
  rotate_left
  · intro w'
    go_simp
    with_reducible rfl
  rotate_left
  · simp only [Act.put, List.setIfInBounds_toArray, List.set_cons_zero, List.set_cons_succ]
    rfl
  refine pure_ (i := 24) (N := some 40) (v := ?_) (a' := ?_) #[true, true, true, true, true, true, true, true, true, true, true, true, true, true, true, true, true, true, true, true, true, true, true, true, true, false, false, false, false, false, false, false, false, false, false] rfl rfl (by kernel_rfl) (fun _ _ _ h => h) (Or.inl ⟨by rfl, ?_⟩) ?_ ?_
  rotate_left
  · intro w'
    go_simp
    with_reducible rfl
  rotate_left
  · simp only [Act.put, List.setIfInBounds_toArray, List.set_cons_zero, List.set_cons_succ]
    rfl
  refine pure_ (i := 25) (N := some 41) (v := ?_) (a' := ?_) #[true, true, true, true, true, true, true, true, true, true, true, true, true, true, true, true, true, true, true, true, true, true, true, true, true, true, false, false, false, false, false, false, false, false, false] rfl rfl (by kernel_rfl) (fun _ _ _ h => h) (Or.inl ⟨by rfl, ?_⟩) ?_ ?_
  rotate_left
  · intro w'
    go_simp
    with_reducible rfl
  rotate_left
  · simp only [Act.put, List.setIfInBounds_toArray, List.set_cons_zero, List.set_cons_succ]
    rfl
  refine take_ (i := 26) (N := some 42) (v := .agg D.toArray) (a' := ?_) #[true, true, true, true, true, true, true, true, true, true, true, true, true, true, true, true, true, true, true, true, true, true, true, true, true, true, true, false, false, false, false, false, false, false, false] rfl rfl (by kernel_rfl) (fun _ _ _ h => h) (yieldsIf_load_mid (by rfl) _ _ rfl _ _ rfl _ _ (fun w' s => Held4.r3 s) hu rfl i4) hHeld ?_ ?_
  rotate_left
  · simp only [Act.put, List.setIfInBounds_toArray, List.set_cons_zero, List.set_cons_succ]
    rfl
  refine pure_ (i := 27) (N := some 43) (v := ?_) (a' := ?_) #[true, true, true, true, true, true, true, true, true, true, true, true, true, true, true, true, true, true, true, true, true, true, true, true, true, true, true, true, false, false, false, false, false, false, false] rfl rfl (by kernel_rfl) (fun _ _ _ h => h) (Or.inl ⟨by rfl, ?_⟩) ?_ ?_
  rotate_left
  · intro w'
    go_simp
    with_reducible rfl
  rotate_left
  · simp only [Act.put, List.setIfInBounds_toArray, List.set_cons_zero, List.set_cons_succ]
    rfl
  refine pure_ (i := 28) (N := some 44) (v := ?_) (a' := ?_) #[true, true, true, true, true, true, true, true, true, true, true, true, true, true, true, true, true, true, true, true, true, true, true, true, true, true, true, true, true, false, false, false, false, false, false] rfl rfl (by kernel_rfl) (fun _ _ _ h => h) (Or.inl ⟨by rfl, ?_⟩) ?_ ?_
  rotate_left
  · intro w'
    go_simp
    with_reducible rfl
  rotate_left
  · simp only [Act.put, List.setIfInBounds_toArray, List.set_cons_zero, List.set_cons_succ]
    rfl
  refine take_ (i := 29) (N := some 45) (v := .agg A.toArray) (a' := ?_) #[true, true, true, true, true, true, true, true, true, true, true, true, true, true, true, true, true, true, true, true, true, true, true, true, true, true, true, true, true, true, false, false, false, false, false] rfl rfl (by kernel_rfl) (fun _ _ _ h => h) (yieldsIf_load_mid (by rfl) _ _ rfl _ _ rfl _ _ (fun w' s => Held4.r0 s) hu rfl i1) hHeld ?_ ?_
  rotate_left
  · simp only [Act.put, List.setIfInBounds_toArray, List.set_cons_zero, List.set_cons_succ]
    rfl
  refine take_ (i := 30) (N := some 46) (v := .agg B.toArray) (a' := ?_) #[true, true, true, true, true, true, true, true, true, true, true, true, true, true, true, true, true, true, true, true, true, true, true, true, true, true, true, true, true, true, true, false, false, false, false] rfl rfl (by kernel_rfl) (fun _ _ _ h => h) (yieldsIf_load_mid (by rfl) _ _ rfl _ _ rfl _ _ (fun w' s => Held4.r1 s) hu rfl i2) hHeld ?_ ?_
  rotate_left
  · simp only [Act.put, List.setIfInBounds_toArray, List.set_cons_zero, List.set_cons_succ]
    rfl
  refine pure_ (i := 31) (N := some 47) (v := ?_) (a' := ?_) #[true, true, true, true, true, true, true, true, true, true, true, true, true, true, true, true, true, true, true, true, true, true, true, true, true, true, true, true, true, true, true, true, false, false, false] rfl rfl (by kernel_rfl) (fun _ _ _ h => h) (Or.inl ⟨by rfl, ?_⟩) ?_ ?_
  rotate_left
  · intro w'
    go_simp
    with_reducible rfl
  rotate_left
  · simp only [Act.put, List.setIfInBounds_toArray, List.set_cons_zero, List.set_cons_succ]
    rfl
  refine pure_ (i := 32) (N := some 48) (v := ?_) (a' := ?_) #[true, true, true, true, true, true, true, true, true, true, true, true, true, true, true, true, true, true, true, true, true, true, true, true, true, true, true, true, true, true, true, true, true, false, false] rfl rfl (by kernel_rfl) (fun _ _ _ h => h) (Or.inl ⟨by rfl, ?_⟩) ?_ ?_
  rotate_left
  · intro w'
    go_simp
    with_reducible rfl
  rotate_left
  · simp only [Act.put, List.setIfInBounds_toArray, List.set_cons_zero, List.set_cons_succ]
    rfl
  refine pure_ (i := 33) (N := some 49) (v := ?_) (a' := ?_) #[true, true, true, true, true, true, true, true, true, true, true, true, true, true, true, true, true, true, true, true, true, true, true, true, true, true, true, true, true, true, true, true, true, true, false] rfl rfl (by kernel_rfl) (fun _ _ _ h => h) (Or.inl ⟨by rfl, ?_⟩) ?_ ?_
  rotate_left
  · intro w'
    go_simp
    with_reducible rfl
  rotate_left
  · simp only [Act.put, List.setIfInBounds_toArray, List.set_cons_zero, List.set_cons_succ]
    rfl
  refine pure_ (i := 34) (N := some 6) (v := ?_) (a' := ?_) #[true, true, true, true, true, true, true, true, true, true, true, true, true, true, true, true, true, true, true, true, true, true, true, true, true, true, true, true, true, true, true, true, true, true, true] rfl rfl (by kernel_rfl) (fun _ _ _ h => h) (Or.inl ⟨by rfl, ?_⟩) ?_ ?_
  rotate_left
  · intro w'
    go_simp
    with_reducible rfl
  rotate_left
  · simp only [Act.put, List.setIfInBounds_toArray, List.set_cons_zero, List.set_cons_succ]
    rfl
  refine done_ (by kernel_rfl) ?_
  go_wp2
  go_ret
  exact ⟨by cases p <;> rfl, hHeld.1.1.1⟩
end Go.Proofs.Ytbkcopejclcfdaa
