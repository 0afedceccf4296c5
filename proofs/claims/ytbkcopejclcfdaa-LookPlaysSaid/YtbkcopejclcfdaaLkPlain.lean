/- What a look does, in plain lists. -/
import Derived.Test.YtbkcopejclcfdaaLkObj
namespace Go.Proofs.Ytbkcopejclcfdaa
open Go.RowKit Go.Proofs.Ytbkcopejclcfdaa.Sum
set_option linter.unusedVariables false
theorem keepL_mem {q : Int → Bool} {l : List Int} {x : Int} : x ∈ keepL q l ↔ x ∈ l ∧ q x = false := by
  unfold keepL
  rw [List.mem_filter]
  simp
theorem keepL_nodup {q : Int → Bool} {l : List Int} (h : l.Nodup) : (keepL q l).Nodup := List.Sublist.nodup List.filter_sublist h
theorem LS.left_mem (S : LS) (x : Int) : x ∈ S.left ↔ x ∈ S.known ∧ x ∉ S.asked := by
  unfold LS.left
  rw [keepL_mem]
  simp
theorem foldl_mem (f : Int → Int → Bool) : ∀ (l : List Int) (x : Int), l.foldl (fun m y => if f y m then y else m) x = x ∨ l.foldl (fun m y => if f y m then y else m) x ∈ l
  | [], x => .inl rfl
  | y :: l, x => by
    rw [List.foldl_cons]
    rcases foldl_mem f l (if f y x then y else x) with h | h
    · rw [h]
      split
      · exact .inr (by simp)
      · exact .inl rfl
    · exact .inr (by simp [h])
theorem minL_mem (k : List Int) (l : List Int) (h : l.length ≠ 0) : minL k l ∈ l := by
  cases l with
  | nil => simp at h
  | cons x l =>
    show l.foldl (fun m y => if nearB k y m then y else m) x ∈ x :: l
    rcases foldl_mem (nearB k) l x with h1 | h1
    · rw [h1]; simp
    · simp [h1]
/-- what always holds of a look -/
structure LS.Ok (S : LS) : Prop where
  kn : S.known.Nodup
  an : S.asked.Nodup
  sub : ∀ x ∈ S.asked, x ∈ S.known
  pos : ∀ x ∈ S.known, 0 ≤ x
theorem LS.Ok.left_len {S : LS} (h : S.Ok) : S.left.length + S.asked.length = S.known.length := by
  have hp : (S.left ++ S.asked).Perm S.known := by
    refine (List.perm_ext_iff_of_nodup ?_ h.kn).2 fun x => ?_
    · refine List.nodup_append.2 ⟨keepL_nodup h.kn, h.an, fun a ha b hb e => ?_⟩
      subst e
      exact ((S.left_mem a).1 ha).2 hb
    · rw [List.mem_append, S.left_mem]
      constructor
      · rintro (h1 | h1)
        · exact h1.1
        · exact h.sub x h1
      · intro h1
        by_cases h2 : x ∈ S.asked
        · exact .inr h2
        · exact .inl ⟨h1, h2⟩
  rw [← List.length_append]
  exact hp.length_eq
theorem nodup_snoc {l : List Int} {x : Int} (h : l.Nodup) (hx : x ∉ l) : (l ++ [x]).Nodup := by
  refine List.nodup_append.2 ⟨h, by simp, fun a ha b hb e => ?_⟩
  simp only [List.mem_cons, List.not_mem_nil, or_false] at hb
  subst hb
  subst e
  exact hx ha
theorem LS.nextV_mem (S : LS) (h : S.left.length ≠ 0) : S.nextV ∈ S.left := by
  unfold LS.nextV
  rw [if_neg h]
  exact minL_mem _ _ h
theorem LS.next_eq (S : LS) (h : S.left.length ≠ 0) : S.next = { S with asked := S.asked ++ [S.nextV], opn := S.opn ++ [S.nextV] } := by
  unfold LS.next LS.nextV
  rw [if_neg h, if_neg h]
theorem LS.Ok.next {S : LS} (h : S.Ok) : S.next.Ok := by
  by_cases h0 : S.left.length = 0
  · unfold LS.next
    rw [if_pos h0]
    exact h
  · have hm := S.nextV_mem h0
    rw [S.next_eq h0]
    rw [S.left_mem] at hm
    refine ⟨h.kn, nodup_snoc h.an hm.2, fun x hx => ?_, h.pos⟩
    rcases List.mem_append.1 hx with hx | hx
    · exact h.sub x hx
    · simp only [List.mem_cons, List.not_mem_nil, or_false] at hx
      subst hx
      exact hm.1
theorem stepK_cases (self : Int) (kn : List Int) (n : Int) : stepK self kn n = kn ∨ (stepK self kn n = kn ++ [n] ∧ 0 ≤ n ∧ n ∉ kn) := by
  unfold stepK
  split
  · rename_i h
    simp at h
    exact .inr ⟨rfl, h.1.1, h.2⟩
  · exact .inl rfl
theorem knowL_ok (self : Int) : ∀ (m kn : List Int), kn.Nodup → (∀ x ∈ kn, 0 ≤ x) → (knowL self kn m).Nodup ∧ (∀ x ∈ knowL self kn m, 0 ≤ x) ∧ ∀ x ∈ kn, x ∈ knowL self kn m
  | [], kn, h1, h2 => ⟨h1, h2, fun _ h => h⟩
  | n :: m, kn, h1, h2 => by
    show (knowL self (stepK self kn n) m).Nodup ∧ (∀ x ∈ knowL self (stepK self kn n) m, 0 ≤ x) ∧ ∀ x ∈ kn, x ∈ knowL self (stepK self kn n) m
    rcases stepK_cases self kn n with e | ⟨e, h3, h4⟩
    · rw [e]
      exact knowL_ok self m kn h1 h2
    · rw [e]
      obtain ⟨a, b, c⟩ := knowL_ok self m (kn ++ [n]) (nodup_snoc h1 h4) (fun x hx => by
        rcases List.mem_append.1 hx with hx | hx
        · exact h2 x hx
        · simp only [List.mem_cons, List.not_mem_nil, or_false] at hx
          subst hx
          exact h3)
      exact ⟨a, b, fun x hx => c x (by simp [hx])⟩
theorem LS.Ok.know {S : LS} (h : S.Ok) (m : List Int) : (S.know m).Ok := by
  obtain ⟨a, b, c⟩ := knowL_ok S.self m S.known h.kn h.pos
  exact ⟨a, h.an, fun x hx => c x (h.sub x hx), b⟩
theorem LS.Ok.lost {S : LS} (h : S.Ok) (x : Int) : (S.lost x).Ok := ⟨h.kn, h.an, h.sub, h.pos⟩
theorem LS.Ok.heard {S : LS} (h : S.Ok) (x : Int) (m : List Int) : (S.heard x m).Ok := by
  unfold LS.heard
  split
  · exact (h.lost x).know m
  · exact h
/-- all that is told is known -/
theorem knowL_all (self : Int) : ∀ (m kn : List Int), ∀ x ∈ m, 0 ≤ x → x ≠ self → x ∈ knowL self kn m
  | [], _, x, h, _, _ => by simp at h
  | n :: m, kn, x, h, h0, hs => by
    show x ∈ knowL self (stepK self kn n) m
    have keep : ∀ (m kn : List Int), ∀ y ∈ kn, y ∈ knowL self kn m := by
      intro m
      induction m with
      | nil => intro kn y hy; exact hy
      | cons a m ih =>
        intro kn y hy
        show y ∈ knowL self (stepK self kn a) m
        refine ih _ y ?_
        unfold stepK
        split
        · simp [hy]
        · exact hy
    rcases List.mem_cons.1 h with e | h
    · subst e
      refine keep m _ x ?_
      by_cases hc : x ∈ kn
      · unfold stepK
        split
        · simp [hc]
        · exact hc
      · unfold stepK
        rw [if_pos (by simp [h0, hs, hc])]
        simp
    · exact knowL_all self m _ x h h0 hs
/-- unlike ones are known as they are told -/
theorem knowL_fresh (self : Int) : ∀ (m kn : List Int), (kn ++ m).Nodup → (∀ x ∈ m, 0 ≤ x ∧ x ≠ self) → knowL self kn m = kn ++ m
  | [], kn, _, _ => by simp [knowL]
  | n :: m, kn, h, hx => by
    show knowL self (stepK self kn n) m = _
    have hn : n ∉ kn := fun hc => (List.nodup_append.1 h).2.2 n hc n (by simp) rfl
    have e : stepK self kn n = kn ++ [n] := by
      unfold stepK
      rw [if_pos (by simp [hn, (hx n (by simp)).1, (hx n (by simp)).2])]
    rw [e, knowL_fresh self m (kn ++ [n]) (by simpa using h) (fun x h2 => hx x (by simp [h2]))]
    simp
def oneTo (n : Nat) : List Int := (List.range n).map fun (i : Nat) => (i : Int) + 1
theorem oneTo_length (n : Nat) : (oneTo n).length = n := by simp [oneTo]
theorem oneTo_succ (n : Nat) : oneTo (n + 1) = oneTo n ++ [(n : Int) + 1] := by simp [oneTo, List.range_succ]
theorem oneTo_nodup (n : Nat) : (oneTo n).Nodup := by
  induction n with
  | zero => simp [oneTo]
  | succ n ih =>
    rw [oneTo_succ]
    refine nodup_snoc ih fun hc => ?_
    unfold oneTo at hc
    obtain ⟨i, hi, he⟩ := List.mem_map.1 hc
    have := List.mem_range.1 hi
    omega
theorem know_oneTo (k : List Int) (n : Nat) : (⟨k, 0, [], [], []⟩ : LS).know (oneTo n) = ⟨k, 0, oneTo n, [], []⟩ := by
  unfold LS.know
  rw [knowL_fresh 0 (oneTo n) [] (by simpa using oneTo_nodup n) (fun x hx => by
    unfold oneTo at hx
    obtain ⟨i, _, rfl⟩ := List.mem_map.1 hx
    omega)]
  rfl
theorem heard_none (S : LS) (h : S.opn = []) (x : Int) (m : List Int) : S.heard x m = S := by
  unfold LS.heard
  rw [h]
  rfl
theorem keep_head {l : List Int} (h : l.Nodup) (j : Nat) (hj : j < l.length) : keepL (fun n => n == l[j]) (l.drop j) = l.drop (j + 1) := by
  rw [List.drop_eq_getElem_cons hj]
  have hd : (l.drop j).Nodup := List.Sublist.nodup (List.drop_sublist j l) h
  rw [List.drop_eq_getElem_cons hj] at hd
  have hn := (List.nodup_cons.1 hd).1
  unfold keepL
  rw [List.filter_cons_of_neg (by simp)]
  refine List.filter_eq_self.2 fun a ha => ?_
  have : a ≠ l[j] := fun e => hn (e ▸ ha)
  simpa using this
/-- one that was asked is lost, or is heard and tells nothing new -/
theorem lost_at (k K A : List Int) (hA : A.Nodup) (j : Nat) (hj : j < A.length) : (⟨k, 0, K, A, A.drop j⟩ : LS).lost A[j] = ⟨k, 0, K, A, A.drop (j + 1)⟩ := by
  unfold LS.lost
  simp only [keep_head hA j hj]
theorem heard_at (k K A : List Int) (hA : A.Nodup) (hs : ∀ x ∈ A, x ∈ K) (j : Nat) (hj : j < A.length) (y : Int) (hy : y ∈ A) : (⟨k, 0, K, A, A.drop j⟩ : LS).heard A[j] [0, -4, y] = ⟨k, 0, K, A, A.drop (j + 1)⟩ := by
  unfold LS.heard
  rw [if_pos (by
    show (A.drop j).contains A[j] = true
    rw [List.contains_iff_mem]
    have e := List.drop_eq_getElem_cons hj
    rw [e]
    exact List.mem_cons_self), lost_at k K A hA j hj]
  unfold LS.know
  have e : knowL 0 K [0, -4, y] = K := by
    have h1 : stepK 0 K 0 = K := by unfold stepK; rw [if_neg (by simp)]
    have h2 : stepK 0 K (-4) = K := by unfold stepK; rw [if_neg (by simp)]
    have h3 : stepK 0 K y = K := by unfold stepK; rw [if_neg (by simp [hs y hy])]
    show stepK 0 (stepK 0 (stepK 0 K 0) (-4)) y = K
    rw [h1, h2, h3]
  simp only [e]
end Go.Proofs.Ytbkcopejclcfdaa
