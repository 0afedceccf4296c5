/- A source that came in or is our own, nil or not: what it reads as, and what an append of it leaves. No walk here. -/
import Derived.Test.YtbkcopejclcfdaaObj
import Derived.OwnWalk
namespace Go.Proofs.Ytbkcopejclcfdaa
open Go.RowKit
/-- the cells that lie from an address on -/
def Reads (W : World) (A : Option Addr) (xs : List Value) : Prop := ∀ j u, xs[j]? = some u → ∃ b off, A = some ⟨b, off, none⟩ ∧ b < W.heap.size ∧ W.cell? ⟨b, off + j, none⟩ = some u
theorem Reads.nil (W : World) (A : Option Addr) : Reads W A [] := fun j u h => by simp at h
theorem Reads.keep {F : Nat → Prop} {W W' : World} {A : Option Addr} {xs : List Value} (h : Reads W A xs) (T : Turns F W W') (hF : ∀ a, A = some a → ¬ F a.block) : Reads W' A xs := fun j u hj => by
  obtain ⟨b, off, h1, h2, h3⟩ := h j u hj
  refine ⟨b, off, h1, Nat.lt_of_lt_of_le h2 T.size, ?_⟩
  rw [World.cell?_of_block (T.block b h2 (hF _ h1))]
  exact h3
theorem Reads.below {W W' : World} {A : Option Addr} {xs : List Value} (h : Reads W A xs) (hb : Below W.heap.size W W') : Reads W' A xs := h.keep (Turns.of_below hb (fun _ => False)) (fun _ _ h => h)
theorem Reads.of_own {w : World} {B : Nat} {e : TypeId} {size n cap : Nat} {ad : Option Addr} {xs : List Value} (h : w.ownsRow B e size (.slice ad n cap) n xs) : Reads w ad xs := fun j u hj => by
  rcases h.2 with ⟨h2, h3⟩ | ⟨g, c, cur, h2, hb, hg, _⟩
  · subst h3
    have : xs = [] := List.eq_nil_of_length_eq_zero (by simpa using h.1)
    subst this
    simp at hj
  · injection h2 with h3 _ h5
    subst h3
    have := h.cells (g := g) rfl j u hj
    rw [Addr.add_lit] at this
    exact ⟨g, 0, rfl, lt_of_block hg, this⟩
theorem Reads.at_ {W : World} {b off : Nat} {sp : Option _} {xs : List Value} (h : Reads W (some ⟨b, off, sp⟩) xs) (j : Nat) (u : Value) (hj : xs[j]? = some u) : W.cell? ((⟨b, off, sp⟩ : Addr).add j) = some u := by
  obtain ⟨b', off', h1, h2, h3⟩ := h j u hj
  injection h1 with h1
  rw [h1, Addr.add_lit]
  exact h3
theorem Reads.cells {W : World} {a : Addr} {xs : List Value} (h : Reads W (some a) xs) (j : Nat) (u : Value) (hj : xs[j]? = some u) : W.cell? (a.add j) = some u := by
  obtain ⟨b, off, sp⟩ := a
  exact h.at_ j u hj
section
variable {P : Program} (w : World)
theorem run_append_none (t ty e : TypeId) (i : TypeInfo) (size : Nat) (ht : P.underlying t = some (.slice e)) (hi : P.info? e = some i) (base : Nat)
    (v : Value) (n : Nat) (xs : List Value) (hown : w.ownsRow base e size v n xs) (c : Nat) : (Builtin.append_ #[t, t] ty #[v, .slice none 0 c]).run P w = .ok v w := by
  obtain ⟨ad, cap, rfl⟩ := slice_of_own hown
  have hu := run_underlying (P := P) ht w
  rcases hown.2 with ⟨h2, _⟩ | ⟨g, cap', cur, h2, _, _, hnc, _⟩
  · injection h2 with h3 h4 h5
    subst h3 h4 h5
    simp [Builtin.append_, hu, sizeOf, typeInfo, hi, Builtin.lenOf, Builtin.firstCells]
  · injection h2 with h3 h4 h5
    subst h3 h5
    simp [Builtin.append_, hu, sizeOf, typeInfo, hi, Builtin.lenOf, Builtin.firstCells, hnc, storeCells]
theorem row_append_any (base : Nat) (hbase : base ≤ w.heap.size) (t ty e : TypeId) (i : TypeInfo) (z : Value) (size bytes : Nat) (ht : P.underlying t = some (.slice e)) (hi : P.info? e = some i) (hz : i.zero = some z)
    (hsize : i.size = size) (hby : i.bytes = bytes) (hzs : z.cells.size = size) (hsz : 0 < size)
    (v : Value) (n : Nat) (xs : List Value) (hown : w.ownsRow base e size v n xs)
    (A : Option Addr) (m c : Nat) (news : List Value) (hl : news.length = m * size) (hr : Reads w A news) (h1 : ∀ u ∈ news, u.oneCell' = true)
    (hb : (n + m) * bytes ≤ 140737488355328) (hbytes : 0 < bytes) :
    ∃ v' w', (Builtin.append_ #[t, t] ty #[v, .slice A m c]).run P w = .ok v' w' ∧ w'.ownsRow base e size v' (n + m) (xs ++ news) ∧ Turns (fun k => v.ownBlock = some k) w w' ∧ Fresh w v v' := by
  cases A with
  | none =>
    have hm : m = 0 := by
      rcases Nat.eq_zero_or_pos m with h | h
      · exact h
      · have hlt : 0 < news.length := by rw [hl]; exact Nat.mul_pos h hsz
        obtain ⟨b, off, h2, _⟩ := hr 0 _ (List.getElem?_eq_getElem hlt)
        cases h2
    subst hm
    have hn : news = [] := List.eq_nil_of_length_eq_zero (by simpa using hl)
    subst hn
    exact ⟨v, w, run_append_none w t ty e i size ht hi base v n xs hown c, by simpa using hown, Turns.refl _ _, Fresh.refl _ _⟩
  | some a => exact row_append w base hbase t ty e i z size bytes ht hi hz hsize hby hzs hsz v n xs hown a m c news hl (fun j u hj => hr.cells j u hj) h1 hb hbytes
theorem wp_row_append_any {o : Oper} {a : Act} {K : Act → World → Prop} {Q : Exit → Act → World → Prop} (s x : Operand) (t : TypeId)
    (ho : o.op = .call { callee := .builtin .append, args := #[s, x], argTypes := #[t, t] })
    (base : Nat) (hbase : base ≤ w.heap.size) (e : TypeId) (i : TypeInfo) (z : Value) (size bytes : Nat) (ht : P.underlying t = some (.slice e)) (hi : P.info? e = some i) (hz : i.zero = some z)
    (hsize : i.size = size) (hby : i.bytes = bytes) (hzs : z.cells.size = size) (hsz : 0 < size)
    (v : Value) (n : Nat) (xs : List Value) (hs : a.eval s = v) (hown : w.ownsRow base e size v n xs)
    (A : Option Addr) (m c : Nat) (news : List Value) (hx : a.eval x = .slice A m c) (hl : news.length = m * size) (hr : Reads w A news) (h1 : ∀ u ∈ news, u.oneCell' = true)
    (hb : (n + m) * bytes ≤ 140737488355328) (hbytes : 0 < bytes)
    (h : ∀ v' w', w'.ownsRow base e size v' (n + m) (xs ++ news) → Turns (fun k => v.ownBlock = some k) w w' → Fresh w v v' → K (a.put o.dst v') w') : o.wp P a w K Q := by
  obtain ⟨v', w', hrun, h2, h3, h4⟩ := row_append_any (P := P) w base hbase t o.type e i z size bytes ht hi hz hsize hby hzs hsz v n xs hown A m c news hl hr h1 hb hbytes
  unfold Oper.wp execOp
  simp only [ho, resolve, invoke, builtin, Sem.run_bind, Sem.run_pure, Result.andThen_ok, List.map_toArray, List.map_cons, List.map_nil, hs, hx, hrun]
  exact h v' w' h2 h3 h4
theorem wpList_row_append_any {ops : Array Oper} {rest : List Oper} {o : Oper} {a : Act} {Q : Exit → Act → World → Prop} (hgd : o.guard = none) (s x : Operand) (t : TypeId)
    (ho : o.op = .call { callee := .builtin .append, args := #[s, x], argTypes := #[t, t] })
    (base : Nat) (hbase : base ≤ w.heap.size) (e : TypeId) (i : TypeInfo) (z : Value) (size bytes : Nat) (ht : P.underlying t = some (.slice e)) (hi : P.info? e = some i) (hz : i.zero = some z)
    (hsize : i.size = size) (hby : i.bytes = bytes) (hzs : z.cells.size = size) (hsz : 0 < size)
    (v : Value) (n : Nat) (xs : List Value) (hs : a.eval s = v) (hown : w.ownsRow base e size v n xs)
    (A : Option Addr) (m c : Nat) (news : List Value) (hx : a.eval x = .slice A m c) (hl : news.length = m * size) (hr : Reads w A news) (h1 : ∀ u ∈ news, u.oneCell' = true)
    (hb : (n + m) * bytes ≤ 140737488355328) (hbytes : 0 < bytes)
    (h : ∀ v' w', w'.ownsRow base e size v' (n + m) (xs ++ news) → Turns (fun k => v.ownBlock = some k) w w' → Fresh w v v' → wpList P ops Q rest (a.put o.dst v') w') : wpList P ops Q (o :: rest) a w :=
  wpList_plain hgd fun _ hK => wp_row_append_any w s x t ho base hbase e i z size bytes ht hi hz hsize hby hzs hsz v n xs hs hown A m c news hx hl hr h1 hb hbytes fun v' w' h2 h3 h4 => hK _ _ (h v' w' h2 h3 h4)
end
end Go.Proofs.Ytbkcopejclcfdaa
