/- CallsOnce: the plain law of its lists. -/
import Derived.Test.YtddchhoplomjgaaTake
namespace Go.Proofs.Ytddchhoplomjgaa
open Go.RowKit
/-- the calls that the first loop adds -/
def Added (L : List CallR) : Prop := ∀ j (h : j < L.length), L[j].tag = (j : Int) + 1 ∧ L[j].peer = 7 ∧ L[j].til = (j : Int) + 6
theorem Added.nil : Added [] := fun j h => by simp at h
theorem Added.snoc {L : List CallR} (h : Added L) (op : Int) : Added (L ++ [⟨(L.length : Int) + 1, op, 7, (L.length : Int) + 6⟩]) := by
  intro j hj
  by_cases e : j < L.length
  · rw [List.getElem_append_left e]
    exact h j e
  · have hjl : j = L.length := by rw [List.length_append] at hj; simp at hj; omega
    subst hjl
    rw [List.getElem_append_right (Nat.le_refl _)]
    simp
def Kept (k : Nat) (l : List CallR) : Prop := ∀ x ∈ l, x.tag ≤ (k : Int) ∧ x.peer = 7 ∧ x.til ≤ 60
theorem Kept.nil (k : Nat) : Kept k [] := fun x h => by simp at h
theorem Kept.succ {k : Nat} {l : List CallR} (h : Kept k l) : Kept (k + 1) l := fun x hx => by have := h x hx; refine ⟨?_, this.2⟩; have := this.1; omega
theorem Kept.snoc {k : Nat} {l : List CallR} {L : List CallR} (h : Kept k l) (hL : Added L) (hk : k < L.length) (h50 : L.length ≤ 50) : Kept (k + 1) (l ++ [L[k]]) := by
  intro x hx
  rcases List.mem_append.1 hx with hx | hx
  · exact h.succ x hx
  · simp only [List.mem_cons, List.not_mem_nil, or_false] at hx
    subst hx
    have := hL k hk
    refine ⟨?_, this.2.1, ?_⟩ <;> omega
theorem not_tagged (l : List CallR) (t q : Int) (h : ∀ x ∈ l, x.tag ≠ t) : l.filter (isTake t q) = [] ∧ l.filter (fun x => !isTake t q x) = l := by
  constructor
  · rw [List.filter_eq_nil_iff]
    intro x hx
    have := h x hx
    simp [isTake, this]
  · rw [List.filter_eq_self]
    intro x hx
    have := h x hx
    simp [isTake, this]
theorem drop_tags {L : List CallR} (hL : Added L) (k : Nat) : ∀ x ∈ L.drop (k + 1), x.tag ≠ (k : Int) + 1 := by
  intro x hx
  obtain ⟨i, hi, rfl⟩ := List.mem_iff_getElem.1 hx
  rw [List.getElem_drop]
  have := hL (k + 1 + i) (by rw [List.length_drop] at hi; omega)
  omega
theorem kept_tags {k : Nat} {l : List CallR} (h : Kept k l) : ∀ x ∈ l, x.tag ≠ (k : Int) + 1 := fun x hx => by
  have := (h x hx).1
  omega
theorem once_first {L kept : List CallR} {k : Nat} (hL : Added L) (hk : k < L.length) (h : Kept k kept) :
    (kept ++ L.drop k).filter (isTake ((k : Int) + 1) 7) = [L[k]] ∧ (kept ++ L.drop k).filter (fun x => !isTake ((k : Int) + 1) 7 x) = kept ++ L.drop (k + 1) := by
  have h1 := not_tagged kept ((k : Int) + 1) 7 (kept_tags h)
  have h2 := not_tagged (L.drop (k + 1)) ((k : Int) + 1) 7 (drop_tags hL k)
  have hx := hL k hk
  have ht : isTake ((k : Int) + 1) 7 L[k] = true := by simp [isTake, hx.1, hx.2.1]
  rw [List.drop_eq_getElem_cons hk, List.filter_append, List.filter_append, h1.1, h1.2]
  constructor
  · rw [List.filter_cons, if_pos ht, h2.1]; rfl
  · rw [List.filter_cons, if_neg (by simp [ht]), h2.2]
theorem once_gone {L kept : List CallR} {k : Nat} (q : Int) (hL : Added L) (h : Kept k kept) :
    (kept ++ L.drop (k + 1)).filter (isTake ((k : Int) + 1) q) = [] ∧ (kept ++ L.drop (k + 1)).filter (fun x => !isTake ((k : Int) + 1) q x) = kept ++ L.drop (k + 1) :=
  not_tagged _ _ _ fun x hx => by
    rcases List.mem_append.1 hx with hx | hx
    · exact kept_tags h x hx
    · exact drop_tags hL k x hx
theorem once_late {k : Nat} {l : List CallR} (n : Int) (hn : 0 ≤ n) (h : Kept k l) : l.filter (isLate (n + 100)) = l ∧ l.filter (fun x => !isLate (n + 100) x) = [] := by
  constructor
  · rw [List.filter_eq_self]
    intro x hx
    have := h x hx
    simp [isLate]
    omega
  · rw [List.filter_eq_nil_iff]
    intro x hx
    have := h x hx
    simp [isLate]
    omega
theorem takeR_cons {t q : Int} {l : List CallR} {x : CallR} {xs : List CallR} (h : l.filter (isTake t q) = x :: xs) : takeR t q l = (x, true) := by unfold takeR; rw [h]
theorem takeR_nil {t q : Int} {l : List CallR} (h : l.filter (isTake t q) = []) : takeR t q l = (⟨0, 0, 0, 0⟩, false) := by unfold takeR; rw [h]
end Go.Proofs.Ytddchhoplomjgaa
