/- Plain lemmas on rows of bytes that are summed place by place: no program here. -/
import Derived.Laws.BitsAllLaws
import Derived.OpenShut
namespace Go.Proofs.Ytbkcopejclcfdaa.Sum

def Byte (x : Int) : Prop := 0 ≤ x ∧ x ≤ 255
def Bytes (r : List Int) : Prop := ∀ x ∈ r, Byte x
def xb (a b : Int) : Int := Go.bits .xor .u8 a b
theorem byte0 : Byte 0 := ⟨by decide, by decide⟩
theorem xb_nat {a b : Int} (ha : Byte a) (hb : Byte b) : xb a b = ((a.toNat ^^^ b.toNat : Nat) : Int) := u8_xor a b ha.1 (by have := ha.2; omega) hb.1 (by have := hb.2; omega)
theorem xb_byte {a b : Int} (ha : Byte a) (hb : Byte b) : Byte (xb a b) := by
  rw [xb_nat ha hb]
  have h1 : a.toNat < 2 ^ 8 := by have := ha.2; have := ha.1; omega
  have h2 : b.toNat < 2 ^ 8 := by have := hb.2; have := hb.1; omega
  have := Nat.xor_lt_two_pow h1 h2
  exact ⟨by omega, by omega⟩
theorem xb_zero {a : Int} (ha : Byte a) : xb a 0 = a := by
  rw [xb_nat ha byte0]
  have := ha.1
  simp
  omega
theorem zero_xb {a : Int} (ha : Byte a) : xb 0 a = a := by
  rw [xb_nat byte0 ha]
  have := ha.1
  simp
  omega
theorem xb_toNat {a b : Int} (ha : Byte a) (hb : Byte b) : (xb a b).toNat = a.toNat ^^^ b.toNat := by rw [xb_nat ha hb]; simp
theorem xb_comm {a b : Int} (ha : Byte a) (hb : Byte b) : xb a b = xb b a := by rw [xb_nat ha hb, xb_nat hb ha, Nat.xor_comm]
theorem xb_assoc {a b c : Int} (ha : Byte a) (hb : Byte b) (hc : Byte c) : xb (xb a b) c = xb a (xb b c) := by
  rw [xb_nat (xb_byte ha hb) hc, xb_nat ha (xb_byte hb hc), xb_toNat ha hb, xb_toNat hb hc, Nat.xor_assoc]

theorem getD_byte {r : List Int} (h : Bytes r) (i : Nat) : Byte (r.getD i 0) := by
  rw [List.getD_eq_getElem?_getD]
  by_cases hi : i < r.length
  · rw [List.getElem?_eq_getElem hi]
    exact h _ (List.getElem_mem hi)
  · rw [List.getElem?_eq_none (by omega)]
    exact byte0

def addRow (o r : List Int) : List Int := (List.range o.length).map fun i => xb (o.getD i 0) (r.getD i 0)
theorem addRow_length (o r : List Int) : (addRow o r).length = o.length := by simp [addRow]
theorem addRow_getD (o r : List Int) (i : Nat) (h : i < o.length) : (addRow o r).getD i 0 = xb (o.getD i 0) (r.getD i 0) := by
  simp [addRow, List.getD_eq_getElem?_getD, List.getElem?_map, List.getElem?_range h]
theorem addRow_bytes {o r : List Int} (ho : Bytes o) (hr : Bytes r) : Bytes (addRow o r) := by
  intro x hx
  obtain ⟨i, hi, rfl⟩ := List.mem_map.1 hx
  exact xb_byte (getD_byte ho i) (getD_byte hr i)
/-- a row that is summed, after i places -/
def mid (o r : List Int) (i : Nat) : List Int := (addRow o r).take i ++ o.drop i
theorem mid_zero (o r : List Int) : mid o r 0 = o := by simp [mid]
theorem mid_length (o r : List Int) (i : Nat) : (mid o r i).length = o.length := by
  simp [mid, addRow_length]
  omega
theorem mid_getD (o r : List Int) (i : Nat) (h : i < o.length) : (mid o r i).getD i 0 = o.getD i 0 := by
  have h1 : ((addRow o r).take i).length = i := by simp [addRow_length]; omega
  simp only [mid, List.getD_eq_getElem?_getD]
  rw [List.getElem?_append_right (by omega), h1, Nat.sub_self, List.getElem?_drop, Nat.add_zero]
theorem mid_set (o r : List Int) (i : Nat) (h : i < o.length) : (mid o r i).set i (xb (o.getD i 0) (r.getD i 0)) = mid o r (i + 1) := by
  have hl := addRow_length o r
  have h1 : ((addRow o r).take i).length = i := by simp [addRow_length]; omega
  have h2 : (addRow o r).take (i + 1) = (addRow o r).take i ++ [xb (o.getD i 0) (r.getD i 0)] := by
    rw [List.take_succ_eq_append_getElem (by omega)]
    have := addRow_getD o r i h
    rw [List.getD_eq_getElem?_getD, List.getElem?_eq_getElem (by omega)] at this
    rw [← this]
    rfl
  simp only [mid]
  rw [h2, List.set_append_right _ _ (by omega), h1, Nat.sub_self, List.append_assoc]
  congr 1
  have h3 : o.drop i = o[i] :: o.drop (i + 1) := List.drop_eq_getElem_cons h
  rw [h3, List.set_cons_zero]
  rfl
theorem mid_all (o r : List Int) : mid o r o.length = addRow o r := by
  simp only [mid, List.drop_length, List.append_nil]
  rw [List.take_of_length_le (by rw [addRow_length]; exact Nat.le_refl _)]
theorem mid_end {o r : List Int} (ho : Bytes o) (m : Nat) (h : r.length ≤ m) (hm : m ≤ o.length) : mid o r m = addRow o r := by
  apply List.ext_getElem?
  intro i
  have h1 : ((addRow o r).take m).length = m := by simp [addRow_length]; omega
  simp only [mid]
  by_cases hi : i < m
  · rw [List.getElem?_append_left (by omega), List.getElem?_take, if_pos hi]
  · rw [List.getElem?_append_right (by omega), h1, List.getElem?_drop]
    have e : m + (i - m) = i := by omega
    rw [e]
    by_cases hi2 : i < o.length
    · have h2 := addRow_getD o r i hi2
      have h3 : r.getD i 0 = 0 := by rw [List.getD_eq_getElem?_getD, List.getElem?_eq_none (by omega)]; rfl
      rw [h3, xb_zero (getD_byte ho i)] at h2
      rw [List.getD_eq_getElem?_getD, List.getD_eq_getElem?_getD] at h2
      have hl := addRow_length o r
      rw [List.getElem?_eq_getElem hi2, List.getElem?_eq_getElem (by omega)] at h2 ⊢
      simp at h2
      rw [h2]
    · rw [List.getElem?_eq_none (by omega), List.getElem?_eq_none (by rw [addRow_length]; omega)]

def sumRows (n : Nat) (l : List (List Int)) : List Int := l.foldl addRow (List.replicate n 0)
theorem replicate_bytes (n : Nat) : Bytes (List.replicate n 0) := fun x hx => by
  rw [(List.mem_replicate.1 hx).2]
  exact byte0
theorem foldl_length (l : List (List Int)) : ∀ o : List Int, (l.foldl addRow o).length = o.length := by
  induction l with
  | nil => exact fun _ => rfl
  | cons r l ih => exact fun o => by rw [List.foldl_cons, ih, addRow_length]
theorem foldl_bytes (l : List (List Int)) (h : ∀ r ∈ l, Bytes r) : ∀ o : List Int, Bytes o → Bytes (l.foldl addRow o) := by
  induction l with
  | nil => exact fun _ h => h
  | cons r l ih => exact fun o ho => by rw [List.foldl_cons]; exact ih (fun x hx => h x (List.mem_cons_of_mem _ hx)) _ (addRow_bytes ho (h r List.mem_cons_self))
theorem sumRows_length (n : Nat) (l : List (List Int)) : (sumRows n l).length = n := by simp [sumRows, foldl_length]
theorem sumRows_bytes (n : Nat) (l : List (List Int)) (h : ∀ r ∈ l, Bytes r) : Bytes (sumRows n l) := foldl_bytes l h _ (replicate_bytes n)

/-- one place of the sum -/
def col (l : List (List Int)) (i : Nat) : Int := l.foldl (fun x r => xb x (r.getD i 0)) 0
theorem foldl_getD (l : List (List Int)) : ∀ (o : List Int) (i : Nat), i < o.length → (l.foldl addRow o).getD i 0 = l.foldl (fun x r => xb x (r.getD i 0)) (o.getD i 0) := by
  induction l with
  | nil => exact fun _ _ _ => rfl
  | cons r l ih => exact fun o i h => by rw [List.foldl_cons, ih _ i (by rw [addRow_length]; exact h), addRow_getD o r i h, List.foldl_cons]
theorem sumRows_getD (n : Nat) (l : List (List Int)) (i : Nat) (h : i < n) : (sumRows n l).getD i 0 = col l i := by
  rw [sumRows, foldl_getD l _ i (by simpa using h)]
  congr 1
  simp [List.getD_eq_getElem?_getD, h]
theorem cols_byte (l : List (List Int)) (h : ∀ r ∈ l, Bytes r) (i : Nat) : ∀ x : Int, Byte x → Byte (l.foldl (fun x r => xb x (r.getD i 0)) x) := by
  induction l with
  | nil => exact fun _ h => h
  | cons r l ih => exact fun x hx => by rw [List.foldl_cons]; exact ih (fun y hy => h y (List.mem_cons_of_mem _ hy)) _ (xb_byte hx (getD_byte (h r List.mem_cons_self) i))
/-- the sum of sums: place by place -/
theorem cols_line (ps : List Int) (f g h : Int → List Int) (n : Nat) (hf : ∀ p, Bytes (f p)) (hg : ∀ p, Bytes (g p)) (i : Nat) (hi : i < n) (hh : ∀ p ∈ ps, h p = sumRows n [f p, g p]) :
    ∀ x y : Int, Byte x → Byte y → (ps.map h).foldl (fun z r => xb z (r.getD i 0)) (xb x y) = xb ((ps.map f).foldl (fun z r => xb z (r.getD i 0)) x) ((ps.map g).foldl (fun z r => xb z (r.getD i 0)) y) := by
  induction ps with
  | nil => exact fun _ _ _ _ => rfl
  | cons p ps ih =>
    intro x y hx hy
    simp only [List.map_cons, List.foldl_cons]
    have bf := getD_byte (hf p) i
    have bg := getD_byte (hg p) i
    have e : (h p).getD i 0 = xb ((f p).getD i 0) ((g p).getD i 0) := by
      rw [hh p List.mem_cons_self, sumRows_getD n _ i hi, col]
      simp only [List.foldl_cons, List.foldl_nil]
      rw [zero_xb bf]
    have e2 : xb (xb x y) ((h p).getD i 0) = xb (xb x ((f p).getD i 0)) (xb y ((g p).getD i 0)) := by
      rw [e, xb_assoc hx hy (xb_byte bf bg), ← xb_assoc hy bf bg, xb_comm hy bf, xb_assoc bf hy bg, ← xb_assoc hx bf (xb_byte hy bg)]
    rw [e2]
    exact ih (fun q hq => hh q (List.mem_cons_of_mem _ hq)) _ _ (xb_byte hx bf) (xb_byte hy bg)
theorem sum_line (ps : List Int) (f g h : Int → List Int) (n : Nat) (hf : ∀ p, Bytes (f p)) (hg : ∀ p, Bytes (g p)) (hh : ∀ p ∈ ps, h p = sumRows n [f p, g p]) :
    sumRows n (ps.map h) = sumRows n [sumRows n (ps.map f), sumRows n (ps.map g)] := by
  apply List.ext_getElem (by rw [sumRows_length, sumRows_length])
  intro i h1 h2
  have hi : i < n := by rw [sumRows_length] at h1; exact h1
  have a1 := sumRows_getD n (ps.map h) i hi
  have a2 := sumRows_getD n [sumRows n (ps.map f), sumRows n (ps.map g)] i hi
  rw [List.getD_eq_getElem?_getD, List.getElem?_eq_getElem h1] at a1
  rw [List.getD_eq_getElem?_getD, List.getElem?_eq_getElem h2] at a2
  simp only [Option.getD_some] at a1 a2
  rw [a1, a2]
  have hbf : ∀ r ∈ ps.map f, Bytes r := fun r hr => by obtain ⟨p, _, rfl⟩ := List.mem_map.1 hr; exact hf p
  have hbg : ∀ r ∈ ps.map g, Bytes r := fun r hr => by obtain ⟨p, _, rfl⟩ := List.mem_map.1 hr; exact hg p
  have key := cols_line ps f g h n hf hg i hi hh 0 0 byte0 byte0
  rw [xb_zero byte0] at key
  simp only [col, List.foldl_cons, List.foldl_nil]
  rw [sumRows_getD n _ i hi, sumRows_getD n _ i hi, col, col, zero_xb (cols_byte _ hbf i 0 byte0)]
  exact key
attribute [irreducible] xb addRow mid sumRows
end Go.Proofs.Ytbkcopejclcfdaa.Sum
