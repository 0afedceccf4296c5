/- What decoding tells: the object's own symbols tell the object, or too little; more of them tell no less. No program is walked here. -/
import Derived.Test.YtkimkgbppegkhaaGreatGo
namespace Go.Proofs.YtkimkgbppegkhaaGreat.Cm
open Go Go.RowKit Go.Proofs.YtkimkgbppegkhaaGreat.Gf
set_option maxRecDepth 1000000
/-- an object's own symbol -/
def Own (N : Nat) (bl : List (Nat × List (List Nat))) (r : Rc) : Prop := ∃ q, bl[r.b]? = some q ∧ r.d = comb N (rowE q.1 r.e) q.2
theorem mem_take_append {α : Type} {l k : List α} {n : Nat} (h : l.length = n) : (l ++ k).take n = l := by rw [← h]; simp
/-- what the parts of a block are -/
theorem BlS.tells {data : List Nat} {B N M i : Nat} {q : Nat × List (List Nat)} (hb : B8 data) (hS : ShOk B N M) (hi : i < blkS B N M) (h : BlS data B N M i q) :
    (∀ r ∈ lowR q.1 ++ highR q.1, comb N r q.2 = zs N) ∧ ∀ e, e < q.1 → comb N (rowE q.1 e) q.2 = fitr data N (sumK (symS B N) M i + e) := by
  obtain ⟨h1, h2⟩ := h
  have hk := (kS_all hS).2.2 i hi
  have k1 : 1 ≤ q.1 := by omega
  have k8 : q.1 ≤ 8 := by omega
  have hm := matK_mx k1 k8 (List.range q.1)
  have hd : Mx (List.range q.1).length N (blkR data N (symS B N) M i) := by rw [List.length_range, h1]; exact blkR_mx hb _ _ _ _
  have hr := h2.right hm (besK_mx hd)
  have hl := low_mx k1 k8
  have hh := high_mx k1 k8
  unfold besK matK at hr
  rw [List.map_append] at hr
  have hlen : (List.replicate (sK q.1 + 2) (zs N)).length = ((lowR q.1 ++ highR q.1).map fun r => comb N r q.2).length := by simp [hl.1, hh.1]
  have hr1 := List.append_inj_left hr hlen
  have hr2 := List.append_inj_right hr hlen
  refine ⟨fun r hr => ?_, fun e he => ?_⟩
  · have : comb N r q.2 ∈ List.replicate (sK q.1 + 2) (zs N) := by rw [hr1]; exact List.mem_map_of_mem hr
    exact List.eq_of_mem_replicate this
  · have h3 := congrArg (fun l : List (List Nat) => l[e]?) hr2
    simp only [blkR, List.getElem?_map] at h3
    rw [List.getElem?_range (show e < kN (symS B N) M i by have : q.1 = kN (symS B N) M i := h1; omega), List.getElem?_range he] at h3
    simp only [Option.map_some, Option.some.injEq] at h3
    exact h3.symm
theorem dd_own {N : Nat} {f : Nat → List Nat} {l : List (Nat × List Nat)} (h : ∀ p ∈ l, p.2 = f p.1) : ∀ p ∈ dd l, p.2 = f p.1 := fun p hp => h p (dd_sub hp)
theorem dd_key {l : List (Nat × List Nat)} {e : Nat} : e ∈ (dd l).map (·.1) ↔ e ∈ l.map (·.1) := by
  have : ∀ (l acc : List (Nat × List Nat)), e ∈ (l.foldl (fun acc p => if acc.any (fun q => q.1 == p.1) then acc else acc ++ [p]) acc).map (·.1) ↔ e ∈ acc.map (·.1) ∨ e ∈ l.map (·.1) := by
    intro l
    induction l with
    | nil => intro acc; simp
    | cons x l ih =>
      intro acc
      rw [List.foldl_cons, ih]
      split
      · rename_i hany
        rw [List.any_eq_true] at hany
        obtain ⟨q, hq, he⟩ := hany
        have he : q.1 = x.1 := by simpa using he
        constructor
        · rintro (h | h)
          · exact .inl h
          · exact .inr (by simp at h ⊢; exact .inr h)
        · rintro (h | h)
          · exact .inl h
          · simp only [List.map_cons, List.mem_cons] at h
            rcases h with rfl | h
            · exact .inl (by rw [← he]; exact List.mem_map_of_mem hq)
            · exact .inr h
      · rw [List.map_append]
        simp only [List.mem_append, List.map_cons, List.map_nil, List.mem_cons, List.not_mem_nil, or_false]
        constructor
        · rintro ((h | h) | h)
          · exact .inl h
          · exact .inr (.inl h)
          · exact .inr (.inr h)
        · rintro (h | h | h)
          · exact .inl (.inl h)
          · exact .inl (.inr h)
          · exact .inr h
  have h := this l []
  simp only [List.map_nil, List.not_mem_nil, false_or] at h
  exact h
/-- own symbols fit the parts -/
theorem sys_own {data : List Nat} {B N M i : Nat} {q : Nat × List (List Nat)} (hb : B8 data) (hS : ShOk B N M) (hi : i < blkS B N M) (h : BlS data B N M i q) {l : List (Nat × List Nat)} (hl : ∀ p ∈ l, p.2 = comb N (rowE q.1 p.1) q.2) :
    dD q.1 N l = (dM q.1 l).map fun r => comb N r q.2 := by
  have hk := (kS_all hS).2.2 i hi
  have hq := h.1
  have k1 : 1 ≤ q.1 := by omega
  have k8 : q.1 ≤ 8 := by omega
  obtain ⟨h1, _⟩ := h.tells hb hS hi
  unfold dD dM besK matK
  rw [List.map_append]
  congr 1
  · symm
    rw [List.eq_replicate_iff]
    refine ⟨by simp [(low_mx k1 k8).1, (high_mx k1 k8).1], fun r hr => ?_⟩
    obtain ⟨r', hr', rfl⟩ := List.mem_map.1 hr
    exact h1 r' hr'
  · rw [List.map_map, List.map_map]
    refine List.map_congr_left fun p hp => ?_
    exact hl p (dd_sub hp)
theorem drp_own {N : Nat} {bl : List (Nat × List (List Nat))} {rs : List Rc} {i : Nat} {q : Nat × List (List Nat)} (hq : bl[i]? = some q) (ho : ∀ r ∈ rs, Own N bl r) : ∀ p ∈ drp rs i, p.2 = comb N (rowE q.1 p.1) q.2 := fun p hp => by
  obtain ⟨r, hr, rfl, rfl⟩ := drp_mem hp
  obtain ⟨q', h1, h2⟩ := ho r hr
  rw [hq] at h1
  cases h1
  exact h2
/-- a block that is decoded has the object's parts -/
theorem DcS.parts {data : List Nat} {B N M i : Nat} {bl : List (Nat × List (List Nat))} {q q' : Nat × List (List Nat)} {rs : List Rc} (hb : B8 data) (hS : ShOk B N M) (hi : i < blkS B N M) (hq : bl[i]? = some q) (h : BlS data B N M i q) (ho : ∀ r ∈ rs, Own N bl r) (hok : RcOk B N M rs) (hd : DcS rs B N M i q') : q' = q := by
  have hk := (kS_all hS).2.2 i hi
  have e1 : q'.1 = q.1 := by rw [hd.1, h.1]
  have k1 : 1 ≤ q.1 := by have := h.1; omega
  have k8 : q.1 ≤ 8 := by have := h.1; omega
  have hs := hd.2
  rw [e1] at hs
  have hm := matK_mx k1 k8 ((dd (drp rs i)).map (·.1))
  have hdm : Mx (dL q.1 (drp rs i)) N (dD q.1 N (drp rs i)) := besK_mx (dd_mx fun p hp => by
    obtain ⟨r, hr, _, rfl⟩ := drp_mem hp
    exact (hok r hr).2.2)
  have hmx := h.mx hb
  have := hs.one hm hdm hmx.1 hmx.2 (sys_own hb hS hi h (drp_own hq ho))
  exact Prod.ext e1 this
theorem fitr_get {data : List Nat} {N t : Nat} (hb : B8 data) : fitr data N t = ((data.drop (t * N)).take N) ++ zs (N - ((data.drop (t * N)).take N).length) := by
  unfold fitr
  show addR (zs N) _ = _
  have : ∀ (r : List Nat) (n : Nat), r.length ≤ n → addR (zs n) r = r ++ zs (n - r.length) := by
    intro r
    induction r with
    | nil => intro n _; rw [addR_nil]; simp
    | cons x r ih =>
      intro n hn
      cases n with
      | zero => simp at hn
      | succ n =>
        show (0 ^^^ x) :: addR (zs n) r = _
        rw [Nat.zero_xor, ih n (by simpa using hn)]
        simp
  exact this _ _ (by rw [List.length_take]; omega)
/-- rows of a row of bytes, one behind the other: the bytes, and zeros -/
theorem fit_all {data : List Nat} {N : Nat} (hb : B8 data) : ∀ (t : Nat), t * N ≤ data.length + N → ∃ z, ((List.range t).map (fitr data N)).flatten = data.take (t * N) ++ zs z ∧ (t * N ≤ data.length → z = 0)
  | 0, _ => ⟨0, by simp, fun _ => rfl⟩
  | t + 1, h => by
    rw [Nat.add_mul, Nat.one_mul] at h
    obtain ⟨z, h1, h2⟩ := fit_all (N := N) hb t (by omega)
    have hz : z = 0 := h2 (by omega)
    subst hz
    refine ⟨N - ((data.drop (t * N)).take N).length, ?_, fun hle => ?_⟩
    · rw [range_snoc, List.flatten_append, h1, List.flatten_cons, List.flatten_nil, List.append_nil, fitr_get hb]
      rw [show zs 0 = [] from rfl, List.append_nil, ← List.append_assoc]
      congr 1
      rw [Nat.add_mul, Nat.one_mul, List.take_add]
    · rw [Nat.add_mul, Nat.one_mul] at hle
      rw [List.length_take, List.length_drop]
      omega
theorem flat_blks {data : List Nat} {N s M : Nat} : ∀ (b : Nat), flatB ((List.range b).map (blkR data N s M)) = ((List.range (sumK s M b)).map (fitr data N)).flatten
  | 0 => rfl
  | b + 1 => by
    rw [range_snoc, flatB_snoc, flat_blks b, sumK]
    rw [List.range_add, List.map_append, List.flatten_append]
    congr 1
    unfold blkR
    rw [List.map_map]
    rfl
theorem blks_data {data : List Nat} {B N M : Nat} (hb : B8 data) (hB : data.length = B) (hS : ShOk B N M) : (flatB (blksR data N (symS B N) M)).take B = data := by
  have h1 := sym_le hS
  have hk := kS_all hS
  unfold blksR
  rw [flat_blks, show sumK (symS B N) M (blkN (symS B N) M) = symS B N from hk.2.1]
  have hle : symS B N * N ≤ data.length + N := by
    have e := Nat.div_mul_le_self (B - 1) N
    have : symS B N * N = (B - 1) / N * N + N := by show ((B - 1) / N + 1) * N = _; rw [Nat.add_mul, Nat.one_mul]
    omega
  obtain ⟨z, h2, _⟩ := fit_all hb (symS B N) hle
  rw [h2, List.take_of_length_le (show data.length ≤ symS B N * N by omega), ← hB]
  simp
/-- all blocks decoded: the object -/
theorem DcAll.data {data : List Nat} {B N M : Nat} {bl ql : List (Nat × List (List Nat))} {rs : List Rc} (hb : B8 data) (hB : data.length = B) (hS : ShOk B N M) (hbl : bl.length = blkS B N M) (hA : BlAll data B N M bl) (ho : ∀ r ∈ rs, Own N bl r) (hok : RcOk B N M rs) (hql : ql.length = blkS B N M) (hd : DcAll rs B N M ql) :
    (flatB (ql.map (decR N))).take B = data := by
  have e : ql.map (decR N) = blksR data N (symS B N) M := by
    unfold blksR
    apply List.ext_getElem?
    intro i
    rw [List.getElem?_map, List.getElem?_map]
    rcases Nat.lt_or_ge i (blkS B N M) with hi | hi
    · have e1 : ql[i]? = some ql[i] := List.getElem?_eq_getElem (by omega)
      have e2 : bl[i]? = some bl[i] := List.getElem?_eq_getElem (by omega)
      have h1 := (hd i _ e1).parts hb hS hi e2 (hA i _ e2) ho hok
      have h2 := hA i _ e2
      rw [e1, Option.map_some, List.getElem?_range hi, Option.map_some, h1]
      congr 1
      unfold decR blkR
      rw [h2.1]
      refine List.map_congr_left fun j hj => ?_
      have := (h2.tells hb hS hi).2 j (by rw [h2.1]; exact List.mem_range.1 hj)
      rw [h2.1] at this
      exact this
    · rw [List.getElem?_eq_none (by omega), List.getElem?_eq_none (by simpa using hi)]
      rfl
  rw [e]
  exact blks_data hb hB hS
/-- where fewer rows are enough more rows are -/
theorem enough {data : List Nat} {B N M i : Nat} {bl : List (Nat × List (List Nat))} {q : Nat × List (List Nat)} {rs : List Rc} (hb : B8 data) (hS : ShOk B N M) (hi : i < blkS B N M) (hq : bl[i]? = some q) (h : BlS data B N M i q) (ho : ∀ r ∈ rs, Own N bl r) (hok : RcOk B N M rs)
    {es : List Nat} {len : Nat} {d out : List (List Nat)} (hs : Solved (lK q.1) N len (matK q.1 es) d out) (hlen : sK q.1 + 2 + es.length = len) (hes : ∀ e ∈ es, e ∈ (drp rs i).map (·.1)) : ¬ Unsolved (lK q.1) N (dL q.1 (drp rs i)) (dM q.1 (drp rs i)) (dD q.1 N (drp rs i)) := by
  intro hu
  have hk := (kS_all hS).2.2 i hi
  have k1 : 1 ≤ q.1 := by have := h.1; omega
  have k8 : q.1 ≤ 8 := by have := h.1; omega
  have hm := matK_mx k1 k8 ((dd (drp rs i)).map (·.1))
  have hdm : Mx (dL q.1 (drp rs i)) N (dD q.1 N (drp rs i)) := besK_mx (dd_mx fun p hp => by
    obtain ⟨r, hr, _, rfl⟩ := drp_mem hp
    exact (hok r hr).2.2)
  have hmx := h.mx hb
  obtain ⟨ys, y1, y2, y3, y4⟩ := hu.null hm hdm hmx.1 hmx.2 (sys_own hb hS hi h (drp_own hq ho))
  have hme := matK_mx k1 k8 es
  rw [hlen] at hme
  refine y4 (hs.inj hme y1 y2 ?_)
  rw [List.eq_replicate_iff]
  refine ⟨by rw [List.length_map, hme.1], fun r hr => ?_⟩
  obtain ⟨r', hr', rfl⟩ := List.mem_map.1 hr
  have hin : r' ∈ dM q.1 (drp rs i) := by
    unfold dM
    unfold matK at hr' ⊢
    rcases List.mem_append.1 hr' with h1 | h1
    · exact List.mem_append.2 (.inl h1)
    · obtain ⟨e, he, rfl⟩ := List.mem_map.1 h1
      exact List.mem_append.2 (.inr (List.mem_map_of_mem (dd_key.2 (hes e he))))
  have : comb 1 r' ys ∈ (dM q.1 (drp rs i)).map fun r => comb 1 r ys := List.mem_map.2 ⟨r', hin, rfl⟩
  rw [y3] at this
  exact List.eq_of_mem_replicate this
/-- the first symbols are the object's own -/
theorem recU_own {N x : Nat} {bl : List (Nat × List (List Nat))} : ∀ (i : Nat), i ≤ bl.length → ∀ r ∈ recU N x bl i, ∃ q, r.b < i ∧ bl[r.b]? = some q ∧ r.e < q.1 + x ∧ r.d = comb N (rowE q.1 r.e) q.2
  | 0, _, r, h => by cases h
  | i + 1, hi, r, h => by
    simp only [recU] at h
    rcases List.mem_append.1 h with h | h
    · obtain ⟨q, h1, h2⟩ := recU_own i (by omega) r h
      exact ⟨q, by omega, h2⟩
    · have e : bl[i]? = some bl[i] := List.getElem?_eq_getElem (by omega)
      rw [e, Option.getD_some] at h
      unfold recB at h
      obtain ⟨j, hj, rfl⟩ := List.mem_map.1 h
      exact ⟨_, by simp, e, List.mem_range.1 hj, rfl⟩
theorem recU_has {N x : Nat} {bl : List (Nat × List (List Nat))} : ∀ (n i e : Nat) (q : Nat × List (List Nat)), n ≤ bl.length → i < n → bl[i]? = some q → e < q.1 + x → e ∈ (drp (recU N x bl n) i).map (·.1)
  | 0, i, e, q, _, h, _, _ => by omega
  | n + 1, i, e, q, hn, hi, hq, he => by
    have hd : ∀ (l k : List Rc), drp (l ++ k) i = drp l i ++ drp k i := fun l k => by unfold drp; rw [List.filter_append, List.map_append]
    simp only [recU]
    rw [hd, List.map_append, List.mem_append]
    by_cases h : i = n
    · subst h
      right
      rw [hq, Option.getD_some]
      refine List.mem_map.2 ⟨(e, comb N (rowE q.1 e) q.2), ?_, rfl⟩
      unfold drp recB
      refine List.mem_map.2 ⟨⟨i, e, comb N (rowE q.1 e) q.2⟩, List.mem_filter.2 ⟨List.mem_map.2 ⟨e, List.mem_range.2 he, rfl⟩, by simp⟩, rfl⟩
    · left
      exact recU_has n i e q (by omega) (by omega) hq he
theorem own_ok {data : List Nat} {B N M x : Nat} {bl : List (Nat × List (List Nat))} (hb : B8 data) (hS : ShOk B N M) (hx : x ≤ 4) (hbl : bl.length = blkS B N M) (hA : BlAll data B N M bl) : (∀ r ∈ recU N x bl bl.length, Own N bl r) ∧ RcOk B N M (recU N x bl bl.length) := by
  refine ⟨fun r hr => ?_, fun r hr => ?_⟩
  · obtain ⟨q, h1, h2, h3, h4⟩ := recU_own bl.length (Nat.le_refl _) r hr
    exact ⟨q, h2, h4⟩
  · obtain ⟨q, h1, h2, h3, h4⟩ := recU_own bl.length (Nat.le_refl _) r hr
    have hq := hA _ _ h2
    have hk := (kS_all hS).2.2 r.b (by omega)
    have e := hq.1
    rw [← e] at hk ⊢
    refine ⟨parts_s hk.1 hk.2 (by omega), by omega, ?_⟩
    rw [h4]
    exact comb_rw (ones_rw _ _).2 (hq.mx hb).2
end Go.Proofs.YtkimkgbppegkhaaGreat.Cm
