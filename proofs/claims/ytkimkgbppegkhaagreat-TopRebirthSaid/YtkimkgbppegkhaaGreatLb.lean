/- Rows over the 256 elements: how steps turn single elements. No program is walked here. -/
import Derived.Test.YtkimkgbppegkhaaGreatLa
namespace Go.Proofs.YtkimkgbppegkhaaGreat.Cm
open Go Go.RowKit Go.Proofs.YtkimkgbppegkhaaGreat.Gf
def colN (m : List (List Nat)) (r c : Nat) : Nat := ((rowN m r)[c]?).getD 0
def Un (len n : Nat) (m : List (List Nat)) : Prop := ∀ c, c < n → ∀ i, i < len → colN m i c = if i = c then 1 else 0
section
variable {len W : Nat} {m : List (List Nat)}
theorem colN_some (h : Mx len W m) {i c : Nat} (hi : i < len) (hc : c < W) : (rowN m i)[c]? = some (colN m i c) := by
  unfold colN
  rw [List.getElem?_eq_getElem (by rw [(h.row hi).1]; exact hc)]
  rfl
theorem colN_lt (h : Mx len W m) {i c : Nat} (hi : i < len) : colN m i c < 256 := by
  unfold colN
  cases hq : (rowN m i)[c]? with
  | none => simp
  | some a => exact (h.row hi).2 a (List.mem_of_getElem? hq)
theorem Un.units {n : Nat} (h : Mx len W m) (hn : n ≤ W) (u : Un len n m) : Units n m := fun c hc i r hr => by
  have hi : i < len := by
    rw [← h.1]
    rcases Nat.lt_or_ge i m.length with g | g
    · exact g
    · rw [List.getElem?_eq_none g] at hr; cases hr
  have e : rowN m i = r := by unfold rowN; rw [hr]; rfl
  rw [← e, colN_some h hi (by omega), u c hc i hi]
theorem rowN_sw {i j : Nat} (h : m.length = len) (hi : i < len) (hj : j < len) (r : Nat) : rowN ((Tn.sw i j).run m) r = rowN m (if r = j then i else if r = i then j else r) := by
  simp only [Tn.run]
  rw [rowN_set (by simp; omega), rowN_set (by omega)]
  by_cases e1 : r = j
  · simp [e1]
  · by_cases e2 : r = i
    · rw [if_neg e1, if_pos e2, if_neg e1, if_pos e2]
    · simp [e1, e2]
theorem colN_sw {i j : Nat} (h : m.length = len) (hi : i < len) (hj : j < len) (r c : Nat) : colN ((Tn.sw i j).run m) r c = colN m (if r = j then i else if r = i then j else r) c := by
  unfold colN; rw [rowN_sw h hi hj]
theorem colN_sc {i a : Nat} (h : m.length = len) (hi : i < len) (r c : Nat) : colN ((Tn.sc i a).run m) r c = if r = i then gm a (colN m i c) else colN m r c := by
  unfold colN
  simp only [Tn.run]
  rw [rowN_set (by omega)]
  by_cases e : r = i
  · rw [if_pos e, if_pos e, List.getElem?_map]
    cases (rowN m i)[c]? with
    | none => simp [gm_zero]
    | some x => rfl
  · rw [if_neg e, if_neg e]
theorem addR_at : ∀ {a b : List Nat} (c : Nat), a.length = b.length → ((addR a b)[c]?).getD 0 = (a[c]?).getD 0 ^^^ (b[c]?).getD 0
  | [], [], c, _ => by simp [addR]
  | x :: a, y :: b, 0, _ => by simp [addR]
  | x :: a, y :: b, c + 1, h => by simpa [addR] using addR_at (a := a) (b := b) c (by simpa using h)
  | [], _ :: _, _, h => by simp at h
  | _ :: _, [], _, h => by simp at h
theorem colN_ad {i a k : Nat} (h : Mx len W m) (hi : i < len) (hk : k < len) (ha : a < 256) (r c : Nat) : colN ((Tn.ad i a k).run m) r c = if r = i then colN m i c ^^^ gm a (colN m k c) else colN m r c := by
  unfold colN
  simp only [Tn.run]
  have hl := h.1
  rw [rowN_set (by omega)]
  by_cases e : r = i
  · rw [if_pos e, if_pos e, addR_at c (by rw [(h.row hi).1, ((h.row hk).sca ha).1]), List.getElem?_map]
    cases (rowN m k)[c]? with
    | none => simp [gm_zero]
    | some x => rfl
  · rw [if_neg e, if_neg e]
theorem Un.sw {i k : Nat} (h : Mx len W m) (u : Un len i m) (hik : i ≤ k) (hk : k < len) : Un len i ((Tn.sw i k).run m) := fun c hc r hr => by
  rw [colN_sw h.1 (by omega) hk]
  by_cases e1 : r = k
  · rw [if_pos e1, u c hc i (by omega), if_neg (by omega), if_neg (by omega)]
  · by_cases e2 : r = i
    · rw [if_neg e1, if_pos e2, u c hc k hk, if_neg (by omega), if_neg (by omega)]
    · rw [if_neg e1, if_neg e2, u c hc r hr]
theorem Un.sc {i a : Nat} (h : Mx len W m) (u : Un len i m) (hi : i < len) : Un len i ((Tn.sc i a).run m) := fun c hc r hr => by
  rw [colN_sc h.1 hi]
  by_cases e : r = i
  · rw [if_pos e, u c hc i hi, if_neg (by omega), gm_zero, if_neg (by omega)]
  · rw [if_neg e, u c hc r hr]
theorem Un.ad {i q a : Nat} (h : Mx len W m) (u : Un len i m) (hi : i < len) (hq : q < len) (ha : a < 256) : Un len i ((Tn.ad q a i).run m) := fun c hc r hr => by
  rw [colN_ad h hq hi ha]
  by_cases e : r = q
  · rw [if_pos e, u c hc q hq, u c hc i hi, if_neg (show ¬ i = c by omega), gm_zero, Nat.xor_zero, e]
  · rw [if_neg e, u c hc r hr]
/-- a column is nothing but for one row, up to a row -/
def Clr (i q : Nat) (m : List (List Nat)) : Prop := colN m i i = 1 ∧ ∀ r, r < q → r ≠ i → colN m r i = 0
theorem Un.next {i : Nat} (u : Un len i m) (z : Clr i len m) : Un len (i + 1) m := fun c hc r hr => by
  by_cases e : c = i
  · subst e
    by_cases e2 : r = c
    · subst e2; rw [if_pos rfl]; exact z.1
    · rw [if_neg e2]; exact z.2 r hr e2
  · exact u c (by omega) r hr
theorem Clr.ad {i q a : Nat} (h : Mx len W m) (z : Clr i q m) (hi : i < len) (hq : q < len) (hqi : q ≠ i) (ha : a = colN m q i) : Clr i (q + 1) ((Tn.ad q a i).run m) := by
  have hlt : a < 256 := by rw [ha]; exact colN_lt h hq
  refine ⟨?_, fun r hr hri => ?_⟩
  · rw [colN_ad h hq hi hlt, if_neg (Ne.symm hqi)]; exact z.1
  · rw [colN_ad h hq hi hlt]
    by_cases e : r = q
    · rw [if_pos e, z.1, ← ha, gm_comm hlt (by omega), one_gm hlt, Nat.xor_self]
    · rw [if_neg e]; exact z.2 r (by omega) hri
theorem Clr.skip {i q : Nat} (z : Clr i q m) (h : q = i ∨ colN m q i = 0) : Clr i (q + 1) m := ⟨z.1, fun r hr hri => by
  rcases Nat.lt_or_ge r q with g | g
  · exact z.2 r g hri
  · have : r = q := by omega
    subst this
    rcases h with h | h
    · exact absurd h hri
    · exact h⟩
end
theorem runs_snoc (ts : List Tn) (t : Tn) (L : List (List Nat)) : runs (ts ++ [t]) L = t.run (runs ts L) := by rw [runs_append]; rfl
theorem oks_snoc {len : Nat} {ts : List Tn} {t : Tn} (h : oks len ts) (ht : t.ok len) : oks len (ts ++ [t]) := fun u hu => by
  rcases List.mem_append.1 hu with h1 | h1
  · exact h u h1
  · simp at h1; subst h1; exact ht
theorem All2.row {R : F → List Nat → Prop} {fs : List F} {L : List (List Nat)} (h : All2 R fs L) {i : Nat} (hi : i < L.length) : ∃ g, fs[i]? = some g ∧ R g (rowN L i) := by
  obtain ⟨g, h1, h2⟩ := h.nth hi
  refine ⟨g, h1, ?_⟩
  unfold rowN
  rw [List.getElem?_eq_getElem hi]
  exact h2
theorem RowV.at {H : Heap} {f : F} {l : List Nat} (h : RowV H f l) {k : Nat} (hk : k < l.length) : ∃ id off cap, f = .sl id off 1 l.length cap ∧ atA H id (off + k) (.int .u8 (((l[k]?).getD 0 : Nat) : Int)) := by
  rcases h.cases with ⟨rfl, rfl⟩ | ⟨id, off, cap, rfl, hat⟩
  · simp at hk
  · refine ⟨id, off, cap, rfl, hat k _ ?_⟩
    rw [List.getElem?_eq_getElem hk]; rfl
theorem splice_at {fs : List F} {i : Nat} {x : F} (hi : i < fs.length) : splice fs (0 + i * 1) [x] = fs.set i x := by
  unfold splice
  rw [List.set_eq_take_append_cons_drop, if_pos hi]
  simp
end Go.Proofs.YtkimkgbppegkhaaGreat.Cm
