/- One element taken out of a row in place: the append of what follows, the clear behind it. No walk here. -/
import Derived.Test.YtbkcopejclcfdaaCut
import Derived.Test.YtbkcopejclcfdaaWLast
import Derived.Lib.SliceRun
namespace Go.Proofs.Ytbkcopejclcfdaa
open Go.RowKit
set_option linter.unusedVariables false
theorem own_le {w : World} {B : Nat} {e : TypeId} {size n cap : Nat} {ad : Option Addr} {xs : List Value} (h : w.ownsRow B e size (.slice ad n cap) n xs) : n ≤ cap := by
  rcases h.2 with ⟨h2, h3⟩ | ⟨g, c, cur, h2, _, _, hc, _⟩
  · omega
  · injection h2 with _ _ h5
    omega
section
variable {P : Program} {o : Oper} {a : Act} (w : World)
theorem exec_cut_lo (t e : TypeId) (x lo : Operand) (ho : o.op = .slice t x (some lo) none none) (s : Nat) (ht : P.underlying t = some (.slice e)) (hi : (P.info? e).map (·.size) = some s)
    (ad : Option Addr) (len cap l : Nat) (hx : a.eval x = .slice ad len cap) (hl : a.eval lo = .int .i64 l) (h0 : l ≤ len) : (execOp a.eval o).run P w = .ok (.value (.slice (cutAt ad cap l s) (len - l) (cap - l))) w := by
  obtain ⟨h1, h2⟩ := elem_of ht
  have hr := run_slice_l (P := P) w t ad len cap h1 .i64 (l : Int) (by omega) (by omega)
  rw [h2, run_sizeOf hi w] at hr
  unfold execOp
  simp only [ho, hx, hl, Option.map_some, Option.map_none, run_sliceAt_slice w t _ _ _ _ h1, Sem.run_bind, hr, Result.andThen_ok, Sem.run_pure]
  simp only [Int.toNat_natCast]
  rfl
theorem exec_cut_hi (t e : TypeId) (x hi_ : Operand) (ho : o.op = .slice t x none (some hi_) none) (s : Nat) (ht : P.underlying t = some (.slice e)) (hi : (P.info? e).map (·.size) = some s)
    (ad : Option Addr) (len cap r : Nat) (hx : a.eval x = .slice ad len cap) (hl : a.eval hi_ = .int .i64 r) (h0 : r ≤ cap) : (execOp a.eval o).run P w = .ok (.value (.slice ad r cap)) w := by
  obtain ⟨h1, h2⟩ := elem_of ht
  have hr := run_slice_h (P := P) w t ad len cap h1 .i64 (r : Int) (by omega) (by omega)
  rw [h2, run_sizeOf hi w] at hr
  unfold execOp
  simp only [ho, hx, hl, Option.map_some, Option.map_none, run_sliceAt_slice w t _ _ _ _ h1, Sem.run_bind, hr, Result.andThen_ok, Sem.run_pure]
  have e : sliced ad 0 r cap s = .slice ad r cap := by
    unfold sliced
    by_cases hc : cap = 0
    · simp [hc]
    · simp only [hc, if_false, Nat.zero_mul, Nat.sub_zero]
      cases ad with
      | none => rfl
      | some q => simp [Addr.add]
  simp only [Int.toNat_natCast, e]
theorem exec_append {v y v' : Value} {w' : World} (s x : Operand) (t : TypeId) (ho : o.op = .call { callee := .builtin .append, args := #[s, x], argTypes := #[t, t] }) (hs : a.eval s = v) (hx : a.eval x = y)
    (hr : (Builtin.append_ #[t, t] o.type #[v, y]).run P w = .ok v' w') : (execOp a.eval o).run P w = .ok (.value v') w' := by
  unfold execOp
  simp only [ho, resolve, invoke, builtin, Sem.run_bind, Sem.run_pure, Result.andThen_ok, List.map_toArray, List.map_cons, List.map_nil, hs, hx, hr]
theorem exec_clear {y v' : Value} {w' : World} (x : Operand) (t : TypeId) (ho : o.op = .call { callee := .builtin .clear, args := #[x], argTypes := #[t] }) (hx : a.eval x = y)
    (hr : (Builtin.clear_ #[t] o.type #[y]).run P w = .ok v' w') : (execOp a.eval o).run P w = .ok (.value v') w' := by
  unfold execOp
  simp only [ho, resolve, invoke, builtin, Sem.run_bind, Sem.run_pure, Result.andThen_ok, List.map_toArray, List.map_cons, List.map_nil, hx, hr]
theorem wpList_exec {ops : Array Oper} {rest : List Oper} {Q : Exit → Act → World → Prop} {v : Value} {w' : World} (hgd : o.guard = none) (hr : (execOp a.eval o).run P w = .ok (.value v) w') (h : wpList P ops Q rest (a.put o.dst v) w') : wpList P ops Q (o :: rest) a w := by
  refine wpList_plain hgd fun K hK => ?_
  unfold Oper.wp
  rw [hr]
  exact hK _ _ h
/-- what follows an element comes in its place -/
theorem row_shift (t ty e : TypeId) (i : TypeInfo) (s : Nat) (ht : P.underlying t = some (.slice e)) (hi : P.info? e = some i) (hs : i.size = s)
    (B g n cap k : Nat) (xs : List Value) (h : w.ownsRow B e s (.slice (some ⟨g, 0, none⟩) n cap) n xs) (hk : k < n) (h1 : ∀ u ∈ xs, u.oneCell' = true) (c : Nat) :
    ∃ w', (Builtin.append_ #[t, t] ty #[.slice (some ⟨g, 0, none⟩) k cap, .slice (cutAt (some ⟨g, 0, none⟩) cap (k + 1) s) (n - (k + 1)) c]).run P w = .ok (.slice (some ⟨g, 0, none⟩) (n - 1) cap) w' ∧
      w'.ownsRow B e s (.slice (some ⟨g, 0, none⟩) (n - 1) cap) (n - 1) (xs.take (k * s) ++ xs.drop ((k + 1) * s)) ∧ Turns (fun q => q = g) w w' := by
  subst hs
  have hrd := (Reads.of_own h).cut cap (k + 1) i.size (fun hc => by rw [h.1]; have := own_le h; exact Nat.mul_le_mul_right _ (by omega))
  rcases h.2 with ⟨h2, _⟩ | ⟨g', cap', cur, h2, hB, hg, hnc, hcm, hcs, htk⟩
  · cases h2
  · injection h2 with h3 _ h5
    injection h3 with h3
    injection h3 with h3
    subst h3 h5
    obtain ⟨a0, ha0⟩ : ∃ a0, cutAt (some ⟨g, 0, none⟩) cap (k + 1) i.size = some a0 := by
      unfold cutAt
      split
      · exact ⟨_, rfl⟩
      · exact ⟨_, rfl⟩
    rw [ha0] at hrd ⊢
    have hlen : (xs.drop ((k + 1) * i.size)).length = (n - (k + 1)) * i.size := by rw [List.length_drop, h.1, Nat.sub_mul]
    have hk1 : k * i.size ≤ n * i.size := Nat.mul_le_mul_right _ (by omega)
    have hfit : k * i.size + (xs.drop ((k + 1) * i.size)).length ≤ cur.size := by
      rw [hlen, hcs, ← Nat.add_mul]
      exact Nat.mul_le_mul_right _ (by omega)
    have hr := run_append_room (P := P) w t ty e i ht hi g k cap cur hg a0 (n - (k + 1)) c (xs.drop ((k + 1) * i.size)) hlen (fun j u hj => hrd.cells j u hj) (fun u hu => h1 u (List.mem_of_mem_drop hu)) (by omega) hfit
    rw [show k + (n - (k + 1)) = n - 1 by omega] at hr
    have htake : cur.toList.take (k * i.size) = xs.take (k * i.size) := by rw [← htk, List.take_take, Nat.min_eq_left hk1]
    have hxk : (xs.take (k * i.size)).length = k * i.size := by rw [List.length_take, h.1]; exact Nat.min_eq_left hk1
    refine ⟨_, hr, ⟨?_, .inr ⟨g, cap, _, rfl, hB, setRow_heap w g cur _ e _ hg, by omega, hcm, ?_, ?_⟩⟩, ⟨rfl, rfl, rfl, by simp [World.setRow], fun q _ hq => setRow_other w g q _ hq⟩⟩
    · rw [List.length_append, hxk, hlen, ← Nat.add_mul]
      congr 1
      omega
    · rw [← hcs]
      simp only [List.size_toArray, List.length_append, List.length_take, List.length_drop, Array.length_toList]
      rw [List.length_drop] at hfit
      omega
    · rw [htake]
      rw [List.take_append_of_le_length]
      · rw [List.take_of_length_le]
        rw [List.length_append, hxk, hlen, ← Nat.add_mul]
        exact Nat.mul_le_mul_right _ (by omega)
      · rw [List.length_append, hxk, hlen, ← Nat.add_mul]
        exact Nat.mul_le_mul_right _ (by omega)
/-- the element behind the row's end is made zero -/
theorem row_clear (t ty e : TypeId) (s : Nat) (z : Value) (ht : P.underlying t = some (.slice e)) (hv : (zeroValue e).run P w = .ok z w) (hz : z.cells.size = s) (hz1 : ∀ u ∈ z.cells, u.oneCell' = true)
    (B g n cap : Nat) (xs : List Value) (h : w.ownsRow B e s (.slice (some ⟨g, 0, none⟩) n cap) n xs) (hn : n < cap) (c : Nat) :
    ∃ w', (Builtin.clear_ #[t] ty #[.slice (cutAt (some ⟨g, 0, none⟩) cap n s) 1 c]).run P w = .ok (.tuple #[]) w' ∧ w'.ownsRow B e s (.slice (some ⟨g, 0, none⟩) n cap) n xs ∧ Turns (fun q => q = g) w w' := by
  have ha : cutAt (some ⟨g, 0, none⟩) cap n s = some ⟨g, n * s, none⟩ := by
    unfold cutAt
    rw [if_neg (by omega)]
    simp only [Option.map_some, Addr.add_lit, Nat.zero_add]
  rw [ha]
  rcases h.2 with ⟨h2, _⟩ | ⟨g', cap', cur, h2, hB, hg, hnc, hcm, hcs, htk⟩
  · cases h2
  · injection h2 with h3 _ h5
    injection h3 with h3
    injection h3 with h3
    subst h3 h5
    have hzl : (Builtin.zeroCells z.cells 1).toList.length = s := by simp [Builtin.zeroCells, hz]
    have hfit : n * s + 0 + (Builtin.zeroCells z.cells 1).toList.length ≤ cur.size := by
      rw [hzl, hcs, Nat.add_zero, ← Nat.succ_mul]
      exact Nat.mul_le_mul_right _ (by omega)
    have hone : ∀ u ∈ (Builtin.zeroCells z.cells 1).toList, u.oneCell' = true := by
      intro u hu
      simp only [Builtin.zeroCells, Nat.one_mul, Array.toList_map, List.mem_map] at hu
      obtain ⟨j, hj, rfl⟩ := hu
      have hj2 : j < z.cells.size := by simpa using hj
      have : z.cells[j % z.cells.size]! = z.cells[j]'hj2 := by rw [Nat.mod_eq_of_lt hj2, getElem!_pos z.cells j hj2]
      first
        | (rw [this]; exact hz1 _ (Array.getElem_mem hj2))
        | (simp [Nat.mod_eq_of_lt hj2, hj2]; exact hz1 _ (Array.getElem_mem hj2))
    have hst := run_storeCells_at P g (n * s) e (Builtin.zeroCells z.cells 1).toList 0 cur w hg hfit hone
    simp only [Nat.add_zero] at hst
    have hrun : (Builtin.clear_ #[t] ty #[.slice (some ⟨g, n * s, none⟩) 1 c]).run P w = .ok (.tuple #[]) (w.setRow g (cur.toList.take (n * s) ++ (Builtin.zeroCells z.cells 1).toList ++ cur.toList.drop (n * s + (Builtin.zeroCells z.cells 1).toList.length)).toArray) := by
      simp [Builtin.clear_, run_underlying ht, hv, hst]
    refine ⟨_, hrun, ⟨h.1, .inr ⟨g, cap, _, rfl, hB, setRow_heap w g cur _ e _ hg, hnc, hcm, ?_, ?_⟩⟩, ⟨rfl, rfl, rfl, by simp [World.setRow], fun q _ hq => setRow_other w g q _ hq⟩⟩
    · rw [← hcs]
      simp only [Array.length_toList] at hfit
      simp only [List.size_toArray, List.length_append, List.length_take, List.length_drop, Array.length_toList]
      omega
    · rw [List.append_assoc, List.take_append_of_le_length]
      · rw [List.take_take, Nat.min_self, htk]
      · rw [List.length_take, Array.length_toList]
        omega
end
end Go.Proofs.Ytbkcopejclcfdaa
