/- Contacts are one with themselves; the law's same. -/
import Derived.Test.YtddchhoplomjgaaBRefSee
import Derived.ChangeKeysEq
import Derived.Laws.Rows
import Derived.Laws.StructEq
import Derived.Test.YtddchhoplomjgaaWEqStruct
namespace Go.Proofs.Ytddchhoplomjgaa
open Go.RowKit Go.Proofs.YtddchhoplomjgaaW.PrintLast Go.Proofs.YtddchhoplomjgaaW.PrintWords
set_option linter.unusedVariables false
set_option linter.unusedSimpArgs false
/-- a row of bytes as cells -/
def kv (a : List Int) : Array Value := (a.map (Value.int .u8)).toArray
theorem kv_get (a : List Int) (i : Nat) : (kv a)[i]? = (a[i]?).map (Value.int .u8) := by simp [kv]
theorem eqItems_self (w : World) (d : Nat) (a : List Int) : ∀ (n i : Nat), a.length = i + n →
    (Op.eqItems (d + 1) 5 (Try.prog.cellsOf 5) (kv a) (kv a) (List.range' i n)).run Try.prog w = .ok true w := by
  have hc : Try.prog.cellsOf 5 = 1 := by kernel_rfl
  intro n
  induction n with
  | zero => intro i hi; simp [Op.eqItems]
  | succ n ih =>
    intro i hi
    have h1 : i < a.length := by omega
    have pa := run_part_plain (P := Try.prog) w (e := 5) (by kernel_rfl) (xs := kv a) (off := i * Try.prog.cellsOf 5) (v := .int .u8 a[i]) (by rw [hc, Nat.mul_one, kv_get, List.getElem?_eq_getElem h1]; rfl)
    have pe := run_equalIn_int (P := Try.prog) w d 5 .u8 .u8 a[i] a[i] Try.underlying5
    rw [List.range'_succ]
    simp only [Op.eqItems, Sem.run_bind, pa, pe, Result.andThen_ok]
    simp only [beq_self_eq_true, Bool.not_true, Bool.false_eq_true, if_false]
    exact ih (i + 1) (by omega)
theorem run_equalIn_key (w : World) (d : Nat) (a : List Int) (ha : a.length = 20) : (Op.equalIn (d + 2) 52 (.agg (kv a)) (.agg (kv a))).run Try.prog w = .ok true w := by
  obtain ⟨i, hi⟩ : ∃ i, Try.prog.info? 5 = some i := by
    cases h : Try.prog.info? 5 with
    | none =>
      have hh : (Try.prog.info? 5).isSome = true := by kernel_rfl
      rw [h] at hh
      cases hh
    | some i => exact ⟨i, rfl⟩
  rw [run_equalIn_array (P := Try.prog) w (d + 1) (kv a) (kv a) Try.underlying52 hi, List.range_eq_range', eqItems_self w d a 20 0 (by omega)]
/-- a contact whose key is bytes -/
def Con.byt (c : Con) : Prop := ∃ ks : List Int, ks.length = 20 ∧ c.key = ks.map (Value.int .u8)
theorem Con.byt.ok {c : Con} (h : c.byt) : c.ok := by
  obtain ⟨ks, h1, h2⟩ := h
  refine ⟨by rw [h2, List.length_map, h1], fun u hu => ?_⟩
  rw [h2] at hu
  obtain ⟨x, _, rfl⟩ := List.mem_map.1 hu
  rfl
theorem pCon_byt (i : Int) : (pCon i).byt := ⟨List.replicate 20 0, rfl, by show List.replicate 20 (Value.int .u8 0) = _; rw [List.map_replicate]⟩
theorem part_key (w : World) (p : Int) (ks : List Int) (h : ks.length = 20) : (part 52 (Con.cells ⟨p, ks.map (Value.int .u8)⟩).toArray 1).run Try.prog w = .ok (.agg (kv ks)) w := by
  have hi : (Try.prog.info? 52).map (·.size) = some 20 := by kernel_rfl
  have hs := run_sizeOf hi w
  have hu := run_underlying (P := Try.prog) Try.underlying52 w
  have hx : (List.take 20 (Con.cells ⟨p, ks.map (Value.int .u8)⟩).tail).toArray = kv ks := by
    show (List.take 20 (ks.map (Value.int .u8))).toArray = kv ks
    rw [List.take_of_length_le (by rw [List.length_map, h]; exact Nat.le_refl _)]
    rfl
  simp [part, isAgg, hu, hs, hx]
theorem run_equalIn_con (w : World) (d : Nat) (c : Con) (h : c.byt) : (Op.equalIn (d + 4) 54 (.agg c.cells.toArray) (.agg c.cells.toArray)).run Try.prog w = .ok true w := by
  obtain ⟨ks, h1, h2⟩ := h
  obtain ⟨p, key⟩ := c
  replace h2 : key = ks.map (Value.int .u8) := h2
  subst h2
  have pp := run_part_plain (P := Try.prog) w (e := 3) (by kernel_rfl) (xs := (Con.cells ⟨p, ks.map (Value.int .u8)⟩).toArray) (off := 0) (v := .int .i64 p) rfl
  have pe := run_equalIn_int (P := Try.prog) w (d + 2) 3 .i64 .i64 p p Try.underlying3
  rw [beq_self_eq_true] at pe
  exact eqA_of Try.underlying54 (by kernel_rfl) (eqf_cons (r := true) (s := true) rfl pp pp pe (eqf_last (r := true) rfl (part_key w p ks h1) (part_key w p ks h1) (run_equalIn_key w (d + 1) ks h1)))
theorem run_neq_con (w : World) (c : Con) (h : c.byt) : (binOp .neq 54 (.agg c.cells.toArray) (.agg c.cells.toArray)).run Try.prog w = .ok (.bool false) w := by
  rw [run_neq_struct, run_equalIn_con w 9996 c h]
  rfl
theorem exec_bin {o : Oper} {a : Act} {w : World} {v vx vy : Value} (op : BinOp) (t t2 : TypeId) (x y : Operand) (ho : o.op = .binOp op t x y t2) (hx : a.eval x = vx) (hy : a.eval y = vy) (hg : (eqGuard op t x y vx vy).run Try.prog w = .ok () w) (hr : (binOp op t vx vy).run Try.prog w = .ok v w) : (execOp a.eval o).run Try.prog w = .ok (.value v) w := by
  unfold execOp
  simp [ho, hx, hy, Sem.run_bind, hg, hr, Result.andThen_ok, Sem.run_pure]
theorem eqg54 : Try.prog.eqGuardType Try.prog.depth 54 = false := by kernel_rfl
def Byts (l : List Con) : Prop := ∀ c ∈ l, c.byt
theorem Byts.ok {l : List Con} (h : Byts l) : Oks l := fun c hc => (h c hc).ok
set_option maxHeartbeats 1000000 in
theorem bsame_any (W : World) (A A' : Option Addr) (n cap cap' : Nat) (l : List Con) (hn : n = l.length) (hl : n ≤ 1000000) (hok : Byts l) (hr : Reads W A (cons l)) (hr' : Reads W A' (cons l)) :
    Calls Try.prog 27 #[.slice A n cap, .slice A' n cap'] W fun e W' => e = .returned (.bool true) ∧ Below W.heap.size W W' := by
  have HN := Lib.hid hn
  have HR := Lib.hid hr
  have HR2 := Lib.hid hr'
  have HOK := Lib.hid hok
  have hq : ((n : Int) != (n : Int)) = false := by simp
  clear hn hr hok hr'
  go_enter Try.func27, Try.ntmps27
  go_wp2
  go_loopw [5] (fun i wr => ∃ k : Nat, k ≤ n ∧ i = .int .i64 k ∧ Below W.heap.size W wr) (fun i _ => n - (intOf i).toNat)
  case atStart => exact ⟨0, Nat.zero_le _, rfl, Below.refl _ _⟩
  case round =>
    obtain ⟨k, hk, rfl, hbel⟩ := hrel
    have HB := Lib.hid hbel
    clear hbel
    by_cases hlt : k < n
    · have hkl : k < l.length := by rw [← HN.out]; exact hlt
      obtain ⟨u, hu⟩ : ∃ u, (cons l)[0]? = some u := ⟨_, List.getElem?_eq_getElem (by rw [cons_length HOK.out.ok]; omega)⟩
      obtain ⟨b, off, rfl, _⟩ := HR.out 0 u hu
      obtain ⟨b', off', rfl, _⟩ := HR2.out 0 u hu
      have HRG := Lib.hid (range_at (HR.out.below HB.out) HOK.out.ok k hkl)
      have HRG2 := Lib.hid (range_at (HR2.out.below HB.out) HOK.out.ok k hkl)
      have hck := HOK.out _ (List.getElem_mem hkl)
      obtain ⟨c, hc⟩ : ∃ c, l[k] = c := ⟨_, rfl⟩
      rw [hc] at HRG HRG2 hck
      have HCK := Lib.hid hck
      have i1 : (k : Int) < (n : Int) := by omega
      have HBD := Lib.hid (below_drewB HB.out)
      clear hc hck hu HB
      go_wp2
      refine start_ (n := 9) (S := fun w' => w'.rangeAt b (off + k * 21) c.cells ∧ w'.rangeAt b' (off' + k * 21) c.cells) (ds := []) #[false, false, false, false, false, false, false, false, false] (by kernel_rfl) rfl rfl (⟨HRG.out, HRG2.out⟩) (fun hHeld => ?_)
      generalize wr.drew = W2 at *
      refine pure_ (i := 0) (N := some 17) (v := ?_) (a' := ?_) #[true, false, false, false, false, false, false, false, false] rfl rfl (by kernel_rfl) (fun _ _ _ h => h) (Or.inl ⟨by rfl, ?_⟩) ?_ ?_
      rotate_left
      · intro w'
        go_simp
        with_reducible rfl
      rotate_left
      · simp only [Act.put, List.setIfInBounds_toArray, List.set_cons_zero, List.set_cons_succ]
        rfl
      refine pure_ (i := 1) (N := some 18) (v := ?_) (a' := ?_) #[true, true, false, false, false, false, false, false, false] rfl rfl (by kernel_rfl) (fun _ _ _ h => h) (Or.inl ⟨by rfl, ?_⟩) ?_ ?_
      rotate_left
      · intro w'
        go_simp
        with_reducible rfl
      rotate_left
      · simp only [Act.put, List.setIfInBounds_toArray, List.set_cons_zero, List.set_cons_succ]
        rfl
      refine pure_ (i := 2) (N := some 19) (v := .pointer (some ⟨b, off + k * 21, none⟩)) (a' := ?_) #[true, true, true, false, false, false, false, false, false] rfl rfl (by kernel_rfl) (fun _ _ _ h => h) (Or.inl ⟨by rfl, ?_⟩) ?_ ?_
      · intro w'
        go_simp
      rotate_left
      · simp only [Act.put, List.setIfInBounds_toArray, List.set_cons_zero, List.set_cons_succ]
        rfl
      refine take_ (i := 3) (N := some 20) (v := .agg c.cells.toArray) (a' := ?_) #[true, true, true, true, false, false, false, false, false] rfl rfl (by kernel_rfl) (fun _ _ _ h => h) (yieldsIf_load_mid (by rfl) _ _ rfl _ _ rfl c.cells _ (fun w' s => s.1) Try.underlying54 rfl (by rw [Con.len HCK.out.ok]; exact info54)) hHeld ?_ ?_
      rotate_left
      · simp only [Act.put, List.setIfInBounds_toArray, List.set_cons_zero, List.set_cons_succ]
        rfl
      refine pure_ (i := 4) (N := some 21) (v := ?_) (a' := ?_) #[true, true, true, true, true, false, false, false, false] rfl rfl (by kernel_rfl) (fun _ _ _ h => h) (Or.inl ⟨by rfl, ?_⟩) ?_ ?_
      rotate_left
      · intro w'
        go_simp
        with_reducible rfl
      rotate_left
      · simp only [Act.put, List.setIfInBounds_toArray, List.set_cons_zero, List.set_cons_succ]
        rfl
      refine pure_ (i := 5) (N := some 22) (v := ?_) (a' := ?_) #[true, true, true, true, true, true, false, false, false] rfl rfl (by kernel_rfl) (fun _ _ _ h => h) (Or.inl ⟨by rfl, ?_⟩) ?_ ?_
      rotate_left
      · intro w'
        go_simp
        with_reducible rfl
      rotate_left
      · simp only [Act.put, List.setIfInBounds_toArray, List.set_cons_zero, List.set_cons_succ]
        rfl
      refine pure_ (i := 6) (N := some 23) (v := .pointer (some ⟨b', off' + k * 21, none⟩)) (a' := ?_) #[true, true, true, true, true, true, true, false, false] rfl rfl (by kernel_rfl) (fun _ _ _ h => h) (Or.inl ⟨by rfl, ?_⟩) ?_ ?_
      · intro w'
        go_simp
      rotate_left
      · simp only [Act.put, List.setIfInBounds_toArray, List.set_cons_zero, List.set_cons_succ]
        rfl
      refine take_ (i := 7) (N := some 24) (v := .agg c.cells.toArray) (a' := ?_) #[true, true, true, true, true, true, true, true, false] rfl rfl (by kernel_rfl) (fun _ _ _ h => h) (yieldsIf_load_mid (by rfl) _ _ rfl _ _ rfl c.cells _ (fun w' s => s.2) Try.underlying54 rfl (by rw [Con.len HCK.out.ok]; exact info54)) hHeld ?_ ?_
      rotate_left
      · simp only [Act.put, List.setIfInBounds_toArray, List.set_cons_zero, List.set_cons_succ]
        rfl
      refine pure_ (i := 8) (N := some 25) (v := .bool false) (a' := ?_) #[true, true, true, true, true, true, true, true, true] rfl rfl (by kernel_rfl) (fun _ _ _ h => h) (Or.inl ⟨by rfl, ?_⟩) ?_ ?_
      · intro w'
        exact exec_bin .neq 54 54 (.tmp 20) (.tmp 24) rfl rfl rfl (run_eqGuard_agg _ _ _ _ _ _ _ eqg54) (run_neq_con w' c HCK.out)
      rotate_left
      · simp only [Act.put, List.setIfInBounds_toArray, List.set_cons_zero, List.set_cons_succ]
        rfl
      refine done_ (by kernel_rfl) ?_
      go_wp2
      refine ⟨⟨k + 1, by omega, by go_num, HBD.out⟩, by simp [intOf]; omega⟩
    · have hkn : k = n := by omega
      subst hkn
      go_wp2
      go_ret
      exact ⟨rfl, HB.out⟩
end Go.Proofs.Ytddchhoplomjgaa
