/- Rows over the 256 elements: sums of multiples of rows, steps that turn a matrix and what stands beside it, and what they keep: solving is right. No program is walked here. -/
import Derived.Test.YtkimkgbppegkhaaGreatFnE
namespace Go.Proofs.YtkimkgbppegkhaaGreat.Cm
open Go Go.RowKit Go.Proofs.YtkimkgbppegkhaaGreat.Gf
abbrev zs (N : Nat) : List Nat := List.replicate N 0
abbrev sca (c : Nat) (r : List Nat) : List Nat := r.map (gm c)
theorem zero_gm (a : Nat) : gm 0 a = 0 := by
  unfold gm
  have : ∀ n a, gmN n 0 a = 0 := by
    intro n
    induction n with
    | zero => intro a; rfl
    | succ n ih => intro a; unfold gmN; rw [xt_zero, ih]; simp
  exact this 8 a
theorem gm_addr (c a b : Nat) : gm c (a ^^^ b) = gm c a ^^^ gm c b := gmN_addr 8 _ _ _
theorem gm_addl {a b : Nat} (c : Nat) (ha : a < 256) (hb : b < 256) : gm (a ^^^ b) c = gm a c ^^^ gm b c := gmN_addl 8 _ _ _ ha hb
theorem addR_zs : ∀ (a : List Nat) (N : Nat), addR a (zs N) = a
  | [], N => by cases N <;> rfl
  | x :: a, 0 => rfl
  | x :: a, N + 1 => by
    show (x ^^^ 0) :: addR a (zs N) = x :: a
    rw [addR_zs a N, Nat.xor_zero]
theorem zs_addR : ∀ (a : List Nat), addR (zs a.length) a = a
  | [] => rfl
  | x :: a => by
    show (0 ^^^ x) :: addR (zs a.length) a = x :: a
    rw [zs_addR a, Nat.zero_xor]
theorem addR_self : ∀ (a : List Nat), addR a a = zs a.length
  | [] => rfl
  | x :: a => by
    show (x ^^^ x) :: addR a a = 0 :: zs a.length
    rw [addR_self a, Nat.xor_self]
theorem addR_comm : ∀ {a b : List Nat}, a.length = b.length → addR a b = addR b a
  | [], [], _ => rfl
  | x :: a, y :: b, h => by
    show (x ^^^ y) :: addR a b = (y ^^^ x) :: addR b a
    rw [addR_comm (by simpa using h), Nat.xor_comm]
  | [], _ :: _, h => by simp at h
  | _ :: _, [], h => by simp at h
theorem addR_assoc : ∀ {a b c : List Nat}, a.length = b.length → b.length = c.length → addR (addR a b) c = addR a (addR b c)
  | [], [], [], _, _ => rfl
  | x :: a, y :: b, z :: c, h, k => by
    show ((x ^^^ y) ^^^ z) :: addR (addR a b) c = (x ^^^ (y ^^^ z)) :: addR a (addR b c)
    rw [addR_assoc (by simpa using h) (by simpa using k), Nat.xor_assoc]
  | [], _ :: _, _, h, _ => by simp at h
  | _ :: _, [], _, h, _ => by simp at h
  | [], [], _ :: _, _, k => by simp at k
  | _ :: _, _ :: _, [], _, k => by simp at k
theorem sca_addR (c : Nat) : ∀ (a b : List Nat), sca c (addR a b) = addR (sca c a) (sca c b)
  | [], b => by cases b <;> rfl
  | x :: a, [] => rfl
  | x :: a, y :: b => by
    show gm c (x ^^^ y) :: sca c (addR a b) = (gm c x ^^^ gm c y) :: addR (sca c a) (sca c b)
    rw [sca_addR c a b, gm_addr]
theorem sca_add {a b : Nat} (ha : a < 256) (hb : b < 256) : ∀ (r : List Nat), sca (a ^^^ b) r = addR (sca a r) (sca b r)
  | [] => rfl
  | x :: r => by
    show gm (a ^^^ b) x :: sca (a ^^^ b) r = (gm a x ^^^ gm b x) :: addR (sca a r) (sca b r)
    rw [sca_add ha hb r, gm_addl x ha hb]
theorem sca_sca {a b : Nat} (ha : a < 256) (hb : b < 256) (r : List Nat) : sca a (sca b r) = sca (gm a b) r := by
  unfold sca
  rw [List.map_map]
  apply List.map_congr_left
  intro x _
  exact gm_assoc ha hb x
theorem sca_zs (c N : Nat) : sca c (zs N) = zs N := by simp [sca, zs, gm_zero]
theorem sca_zero (r : List Nat) : sca 0 r = zs r.length := by
  induction r with
  | nil => rfl
  | cons x r ih => show gm 0 x :: sca 0 r = 0 :: zs r.length; rw [ih, zero_gm]
theorem sca_one : ∀ {r : List Nat}, B8 r → sca 1 r = r
  | [], _ => rfl
  | x :: r, h => by
    show gm 1 x :: sca 1 r = x :: r
    rw [sca_one (fun y hy => h y (by simp [hy])), one_gm (h x (by simp))]
theorem sca_len (c : Nat) (r : List Nat) : (sca c r).length = r.length := by simp [sca]
theorem sca_b8 {c : Nat} (hc : c < 256) (r : List Nat) : B8 (sca c r) := fun x hx => by
  obtain ⟨y, _, rfl⟩ := List.mem_map.1 hx
  exact gm_lt hc
theorem zs_b8 (N : Nat) : B8 (zs N) := fun x hx => by rw [List.eq_of_mem_replicate hx]; omega
/-- a row of so many elements -/
def Rw (N : Nat) (r : List Nat) : Prop := r.length = N ∧ B8 r
theorem Rw.zs (N : Nat) : Rw N (zs N) := ⟨by simp, zs_b8 N⟩
theorem Rw.sca {N c : Nat} {r : List Nat} (h : Rw N r) (hc : c < 256) : Rw N (sca c r) := ⟨by rw [sca_len, h.1], sca_b8 hc r⟩
theorem Rw.add {N : Nat} {r s : List Nat} (h : Rw N r) (k : Rw N s) : Rw N (addR r s) := ⟨by rw [addR_len, h.1], addR_b8 h.2 k.2⟩
theorem addR_x4 {a b c d : List Nat} (h1 : a.length = b.length) (h2 : b.length = c.length) (h3 : c.length = d.length) : addR (addR a b) (addR c d) = addR (addR a c) (addR b d) := by
  rw [addR_assoc h1 (by rw [addR_len]; exact h2), ← addR_assoc h2 h3, addR_comm h2, addR_assoc h2.symm (h2.trans h3), ← addR_assoc (h1.trans h2) (by rw [addR_len]; exact h2.symm)]
/-- a sum of multiples -/
def comb (N : Nat) : List Nat → List (List Nat) → List Nat
  | a :: r, x :: xs => addR (sca a x) (comb N r xs)
  | [], _ => zs N
  | _ :: _, [] => zs N
theorem comb_len {N : Nat} : ∀ (r : List Nat) (xs : List (List Nat)), (∀ x ∈ xs, Rw N x) → (comb N r xs).length = N
  | [], _, _ => by simp [comb]
  | _ :: _, [], _ => by simp [comb]
  | a :: r, x :: xs, h => by rw [comb, addR_len, sca_len]; exact (h x (by simp)).1
theorem comb_rw {N : Nat} : ∀ {r : List Nat} {xs : List (List Nat)}, B8 r → (∀ x ∈ xs, Rw N x) → Rw N (comb N r xs)
  | [], _, _, _ => Rw.zs N
  | _ :: _, [], _, _ => Rw.zs N
  | a :: r, x :: xs, hr, h => Rw.add ((h x (by simp)).sca (hr a (by simp))) (comb_rw (fun y hy => hr y (by simp [hy])) (fun y hy => h y (by simp [hy])))
theorem comb_add {N : Nat} : ∀ {r s : List Nat} {xs : List (List Nat)}, r.length = s.length → B8 r → B8 s → (∀ x ∈ xs, Rw N x) → comb N (addR r s) xs = addR (comb N r xs) (comb N s xs)
  | [], [], xs, _, _, _, _ => by simp only [addR, comb]; rw [addR_zs]
  | a :: r, b :: s, [], _, _, _, _ => by simp only [addR, comb]; rw [addR_zs]
  | a :: r, b :: s, x :: xs, h, hr, hs, hx => by
    have hx' : ∀ y ∈ xs, Rw N y := fun y hy => hx y (by simp [hy])
    simp only [addR, comb]
    rw [comb_add (by simpa using h) (fun y hy => hr y (by simp [hy])) (fun y hy => hs y (by simp [hy])) hx', sca_add (hr a (by simp)) (hs b (by simp))]
    have hl := (hx x (by simp)).1
    exact addR_x4 (by rw [sca_len, sca_len]) (by rw [sca_len, comb_len _ _ hx', hl]) (by rw [comb_len _ _ hx', comb_len _ _ hx'])
  | [], _ :: _, _, h, _, _, _ => by simp at h
  | _ :: _, [], _, h, _, _, _ => by simp at h
theorem comb_sca {N c : Nat} (hc : c < 256) : ∀ {r : List Nat} {xs : List (List Nat)}, B8 r → comb N (sca c r) xs = sca c (comb N r xs)
  | [], xs, _ => by simp only [List.map_nil, comb, sca_zs]
  | a :: r, [], _ => by simp only [List.map_cons, comb, sca_zs]
  | a :: r, x :: xs, hr => by
    simp only [List.map_cons, comb]
    rw [comb_sca hc (fun y hy => hr y (by simp [hy])), sca_addR, sca_sca hc (hr a (by simp))]
theorem comb_zs {N : Nat} : ∀ (k : Nat) {xs : List (List Nat)}, (∀ x ∈ xs, Rw N x) → comb N (zs k) xs = zs N
  | 0, _, _ => rfl
  | k + 1, [], _ => rfl
  | k + 1, x :: xs, h => by
    show addR (sca 0 x) (comb N (zs k) xs) = zs N
    rw [comb_zs k (fun y hy => h y (by simp [hy])), addR_zs, sca_zero, (h x (by simp)).1]
/-- a row of which one element alone is 1 -/
theorem comb_unit {N : Nat} : ∀ {r : List Nat} {xs : List (List Nat)} {i : Nat}, r.length = xs.length → (∀ c, c < r.length → r[c]? = some (if i = c then 1 else 0)) → (∀ x ∈ xs, Rw N x) → ∀ {x}, xs[i]? = some x → comb N r xs = x
  | [], xs, i, hl, _, _, x, hx => by
    cases xs with
    | nil => simp at hx
    | cons _ _ => simp at hl
  | a :: r, [], i, hl, _, _, _, _ => by simp at hl
  | a :: r, y :: xs, 0, hl, h, hr, x, hx => by
    have h0 := h 0 (by simp)
    simp only [List.getElem?_cons_zero, if_true, Option.some.injEq] at h0 hx
    subst h0 hx
    have hz : r = zs r.length := by
      apply List.ext_getElem?
      intro c
      rcases Nat.lt_or_ge c r.length with hc | hc
      · have := h (c + 1) (by simp; exact hc)
        simp only [List.getElem?_cons_succ] at this
        rw [this, List.getElem?_replicate, if_pos hc, if_neg (by omega)]
      · rw [List.getElem?_eq_none hc, List.getElem?_eq_none (by simpa using hc)]
    simp only [comb]
    rw [hz, comb_zs _ (fun z hz => hr z (by simp [hz])), addR_zs, sca_one (hr y (by simp)).2]
  | a :: r, y :: xs, i + 1, hl, h, hr, x, hx => by
    have h0 := h 0 (by simp)
    simp only [List.getElem?_cons_zero, Option.some.injEq] at h0
    rw [if_neg (by omega)] at h0
    subst h0
    have ih := comb_unit (N := N) (r := r) (xs := xs) (i := i) (by simpa using hl) (fun c hc => by
      have := h (c + 1) (by simp; exact hc)
      simp only [List.getElem?_cons_succ] at this
      rw [this]
      congr 1
      by_cases e : i = c <;> simp [e]) (fun z hz => hr z (by simp [hz])) (x := x) (by simpa using hx)
    simp only [comb]
    rw [ih, sca_zero, (hr y (by simp)).1]
    have hxm : x ∈ xs := List.mem_of_getElem? (by simpa using hx)
    have := (hr x (by simp [hxm])).1
    rw [← this]
    exact zs_addR x
/-- what turns rows -/
inductive Tn where
  | sw (i j : Nat)
  | sc (i c : Nat)
  | ad (i c n : Nat)
def Tn.ok (len : Nat) : Tn → Prop
  | .sw i j => i < len ∧ j < len
  | .sc i c => i < len ∧ c < 256 ∧ c ≠ 0
  | .ad i c n => i < len ∧ n < len ∧ i ≠ n ∧ c < 256
def rowN (L : List (List Nat)) (i : Nat) : List Nat := (L[i]?).getD []
def Tn.run : Tn → List (List Nat) → List (List Nat)
  | .sw i j, L => (L.set i (rowN L j)).set j (rowN L i)
  | .sc i c, L => L.set i (sca c (rowN L i))
  | .ad i c n, L => L.set i (addR (rowN L i) (sca c (rowN L n)))
/-- a matrix: so many rows of so many elements -/
def Mx (len N : Nat) (L : List (List Nat)) : Prop := L.length = len ∧ ∀ r ∈ L, Rw N r
theorem Mx.row {len N : Nat} {L : List (List Nat)} (h : Mx len N L) {i : Nat} (hi : i < len) : Rw N (rowN L i) := by
  unfold rowN
  rw [List.getElem?_eq_getElem (by rw [h.1]; exact hi)]
  exact h.2 _ (List.getElem_mem _)
theorem Mx.set {len N : Nat} {L : List (List Nat)} (h : Mx len N L) (i : Nat) {r : List Nat} (hr : Rw N r) : Mx len N (L.set i r) :=
  ⟨by rw [List.length_set, h.1], fun s hs => by rcases List.mem_or_eq_of_mem_set hs with h1 | rfl; exact h.2 s h1; exact hr⟩
theorem Mx.run {len N : Nat} {L : List (List Nat)} (h : Mx len N L) {t : Tn} (ht : t.ok len) : Mx len N (t.run L) := by
  cases t with
  | sw i j => exact (h.set i (h.row ht.2)).set j (h.row ht.1)
  | sc i c => exact h.set i ((h.row ht.1).sca ht.2.1)
  | ad i c n => exact h.set i ((h.row ht.1).add ((h.row ht.2.1).sca ht.2.2.2))
theorem rowN_map {L : List (List Nat)} {f : List Nat → List Nat} {i : Nat} (hi : i < L.length) : rowN (L.map f) i = f (rowN L i) := by
  unfold rowN
  rw [List.getElem?_map, List.getElem?_eq_getElem hi]
  rfl
/-- turning, and summing up -/
theorem run_map {len W N : Nat} {L : List (List Nat)} (h : Mx len W L) {t : Tn} (ht : t.ok len) {xs : List (List Nat)} (hx : ∀ x ∈ xs, Rw N x) : t.run (L.map fun r => comb N r xs) = (t.run L).map fun r => comb N r xs := by
  cases t with
  | sw i j =>
    obtain ⟨h1, h2⟩ := ht
    simp only [Tn.run, List.map_set]
    rw [rowN_map (by rw [h.1]; exact h2), rowN_map (by rw [h.1]; exact h1)]
  | sc i c =>
    obtain ⟨h1, h2, _⟩ := ht
    simp only [Tn.run, List.map_set]
    rw [rowN_map (by rw [h.1]; exact h1), comb_sca h2 (h.row h1).2]
  | ad i c n =>
    obtain ⟨h1, h2, h3, h4⟩ := ht
    simp only [Tn.run, List.map_set]
    have g1 := h.row h1
    have g2 := (h.row h2).sca h4
    rw [rowN_map (by rw [h.1]; exact h1), rowN_map (by rw [h.1]; exact h2), comb_add (by rw [g1.1, g2.1]) g1.2 g2.2 hx, comb_sca h4 (h.row h2).2]
/-- what turns back -/
def Tn.inv : Tn → Tn
  | .sw i j => .sw i j
  | .sc i c => .sc i (iv c)
  | .ad i c n => .ad i c n
theorem iv_ne {c : Nat} (hc : c < 256) (h0 : c ≠ 0) : iv c ≠ 0 := fun h => by
  have := (iv_ok hc h0).1
  rw [h, gm_zero] at this
  cases this
theorem Tn.inv_ok {len : Nat} {t : Tn} (h : t.ok len) : t.inv.ok len := by
  cases t with
  | sw i j => exact h
  | sc i c => exact ⟨h.1, iv_lt h.2.1, iv_ne h.2.1 h.2.2⟩
  | ad i c n => exact h
theorem rowN_set {L : List (List Nat)} {i j : Nat} {r : List Nat} (hi : i < L.length) : rowN (L.set i r) j = if j = i then r else rowN L j := by
  unfold rowN
  by_cases e : j = i
  · subst e; rw [List.getElem?_set_self hi, if_pos rfl]; rfl
  · rw [List.getElem?_set_ne (Ne.symm e), if_neg e]
theorem set_rowN {L : List (List Nat)} {i : Nat} (hi : i < L.length) : L.set i (rowN L i) = L := by
  unfold rowN
  rw [List.getElem?_eq_getElem hi]
  exact List.set_getElem_self hi
theorem run_inv {len N : Nat} {L : List (List Nat)} (h : Mx len N L) {t : Tn} (ht : t.ok len) : t.inv.run (t.run L) = L := by
  cases t with
  | sw i j =>
    obtain ⟨h1, h2⟩ := ht
    rw [← h.1] at h1 h2
    simp only [Tn.inv, Tn.run]
    have l1 : i < (L.set i (rowN L j)).length := by simpa using h1
    have l2 : j < (L.set i (rowN L j)).length := by simpa using h2
    rw [rowN_set l2, rowN_set l2, if_pos rfl]
    by_cases e : i = j
    · subst e
      rw [if_pos rfl]
      simp only [List.set_set]
      exact set_rowN h1
    · rw [if_neg e, rowN_set h1, if_pos rfl]
      have e1 : L[i]? = some (rowN L i) := by unfold rowN; rw [List.getElem?_eq_getElem h1]; rfl
      have e2 : L[j]? = some (rowN L j) := by unfold rowN; rw [List.getElem?_eq_getElem h2]; rfl
      apply List.ext_getElem?
      intro k
      simp only [List.getElem?_set, List.length_set]
      grind
  | sc i c =>
    obtain ⟨h1, h2, h3⟩ := ht
    have hr := h.row h1
    rw [← h.1] at h1
    simp only [Tn.inv, Tn.run]
    rw [rowN_set h1, if_pos rfl, List.set_set, sca_sca (iv_lt h2) h2, gm_comm (iv_lt h2) h2, (iv_ok h2 h3).1, sca_one hr.2, set_rowN h1]
  | ad i c n =>
    obtain ⟨h1, h2, h3, h4⟩ := ht
    have hr := h.row h1
    have hq := (h.row h2).sca h4
    rw [← h.1] at h1 h2
    simp only [Tn.inv, Tn.run]
    rw [rowN_set h1, if_pos rfl, rowN_set h1, if_neg (Ne.symm h3), List.set_set, addR_assoc (by rw [hr.1, hq.1]) rfl, addR_self, addR_zs, set_rowN h1]
def runs : List Tn → List (List Nat) → List (List Nat)
  | [], L => L
  | t :: ts, L => runs ts (t.run L)
def oks (len : Nat) (ts : List Tn) : Prop := ∀ t ∈ ts, t.ok len
theorem runs_append : ∀ (ts us : List Tn) (L : List (List Nat)), runs (ts ++ us) L = runs us (runs ts L)
  | [], _, _ => rfl
  | t :: ts, us, L => runs_append ts us (t.run L)
theorem Mx.runs {len N : Nat} : ∀ {ts : List Tn} {L : List (List Nat)}, Mx len N L → oks len ts → Mx len N (Cm.runs ts L)
  | [], _, h, _ => h
  | t :: ts, L, h, k => Mx.runs (ts := ts) (h.run (k t (by simp))) fun u hu => k u (by simp [hu])
/-- the rows' sums are what stands beside them: before the steps, behind them -/
theorem sys_runs {len W N : Nat} {xs : List (List Nat)} (hx : ∀ x ∈ xs, Rw N x) : ∀ {ts : List Tn} {m d : List (List Nat)}, Mx len W m → Mx len N d → oks len ts → (d = m.map (fun r => comb N r xs) ↔ runs ts d = (runs ts m).map fun r => comb N r xs)
  | [], _, _, _, _, _ => Iff.rfl
  | t :: ts, m, d, hm, hd, hk => by
    have ht := hk t (by simp)
    refine Iff.trans ?_ (sys_runs hx (ts := ts) (hm.run ht) (hd.run ht) fun u hu => hk u (by simp [hu]))
    constructor
    · intro h
      rw [h]
      exact run_map hm ht hx
    · intro h
      have h1 := congrArg t.inv.run h
      rw [run_inv hd ht, run_map (hm.run ht) (Tn.inv_ok ht) hx, run_inv hm ht] at h1
      exact h1
/-- the first columns are those of steps -/
def Units (n : Nat) (m : List (List Nat)) : Prop := ∀ c, c < n → ∀ i r, m[i]? = some r → r[c]? = some (if i = c then 1 else 0)
/-- solved -/
structure Solved (W N len : Nat) (m d out : List (List Nat)) : Prop where
  ex : ∃ ts, oks len ts ∧ Units W (runs ts m) ∧ W ≤ len ∧ out = (runs ts d).take W ∧ ∀ i e, W ≤ i → (runs ts d)[i]? = some e → ∀ x ∈ e, x = 0
/-- not to be solved -/
structure Unsolved (W N len : Nat) (m d : List (List Nat)) : Prop where
  ex : ∃ ts, oks len ts ∧ ((∃ n, n < W ∧ n ≤ len ∧ Units n (runs ts m) ∧ ∀ i r, n ≤ i → (runs ts m)[i]? = some r → r[n]? = some 0) ∨ (Units W (runs ts m) ∧ W ≤ len ∧ ∃ i e, W ≤ i ∧ (runs ts d)[i]? = some e ∧ ∃ x ∈ e, x ≠ 0))
theorem zs_of {r : List Nat} (h : ∀ x ∈ r, x = 0) : r = zs r.length := by
  induction r with
  | nil => rfl
  | cons a r ih => rw [h a (by simp), ih (fun x hx => h x (by simp [hx]))]; simp [zs, List.replicate_succ]
theorem units_comb {W N len : Nat} {m xs : List (List Nat)} (hm : Mx len W m) (hu : Units W m) (hl : xs.length = W) (hx : ∀ x ∈ xs, Rw N x) {i : Nat} {r : List Nat} (hi : m[i]? = some r) : (∀ x, xs[i]? = some x → comb N r xs = x) ∧ (W ≤ i → comb N r xs = zs N) := by
  have hr := hm.2 r (List.mem_of_getElem? hi)
  refine ⟨fun x h => ?_, fun h => ?_⟩
  · exact comb_unit (by rw [hr.1, hl]) (fun c hc => hu c (by rw [← hr.1]; exact hc) i r hi) hx h
  · have hz : r = zs W := by
      apply List.ext_getElem?
      intro c
      rcases Nat.lt_or_ge c W with hc | hc
      · rw [hu c hc i r hi, if_neg (by omega), List.getElem?_replicate, if_pos hc]
      · rw [List.getElem?_eq_none (by rw [hr.1]; exact hc), List.getElem?_eq_none (by simpa using hc)]
    rw [hz]
    exact comb_zs W hx
theorem Solved.mx {W N len : Nat} {m d out : List (List Nat)} (hd : Mx len N d) (h : Solved W N len m d out) : out.length = W ∧ ∀ x ∈ out, Rw N x := by
  obtain ⟨ts, h1, h2, h3, rfl, h5⟩ := h.ex
  have hd' := hd.runs h1
  exact ⟨by rw [List.length_take, hd'.1]; omega, fun x hx => hd'.2 x (List.mem_of_mem_take hx)⟩
/-- what is solved is so -/
theorem Solved.right {W N len : Nat} {m d out : List (List Nat)} (hm : Mx len W m) (hd : Mx len N d) (h : Solved W N len m d out) : d = m.map fun r => comb N r out := by
  obtain ⟨hl, hx⟩ := h.mx hd
  obtain ⟨ts, h1, h2, h3, h4, h5⟩ := h.ex
  have hm' := hm.runs h1
  have hd' := hd.runs h1
  rw [sys_runs hx hm hd h1]
  apply List.ext_getElem?
  intro i
  rw [List.getElem?_map]
  rcases Nat.lt_or_ge i len with hi | hi
  · have e1 := List.getElem?_eq_getElem (l := runs ts m) (i := i) (by rw [hm'.1]; exact hi)
    have e2 := List.getElem?_eq_getElem (l := runs ts d) (i := i) (by rw [hd'.1]; exact hi)
    rw [e1, e2, Option.map_some]
    congr 1
    obtain ⟨g1, g2⟩ := units_comb hm' h2 hl hx e1
    rcases Nat.lt_or_ge i W with hW | hW
    · exact (g1 _ (by rw [h4, List.getElem?_take, if_pos hW, e2])).symm
    · rw [g2 hW, zs_of (h5 i _ hW e2), (hd'.2 _ (List.getElem_mem _)).1]
  · rw [List.getElem?_eq_none (by rw [hd'.1]; exact hi), List.getElem?_eq_none (by rw [hm'.1]; exact hi)]
    rfl
/-- and nothing else is -/
theorem Solved.one {W N len : Nat} {m d out xs : List (List Nat)} (hm : Mx len W m) (hd : Mx len N d) (h : Solved W N len m d out) (hl : xs.length = W) (hx : ∀ x ∈ xs, Rw N x) (hs : d = m.map fun r => comb N r xs) : out = xs := by
  obtain ⟨ts, h1, h2, h3, h4, h5⟩ := h.ex
  have hm' := hm.runs h1
  have hd' := hd.runs h1
  rw [sys_runs hx hm hd h1] at hs
  rw [h4, hs]
  apply List.ext_getElem?
  intro i
  rw [List.getElem?_take]
  rcases Nat.lt_or_ge i W with hi | hi
  · rw [if_pos hi, List.getElem?_map]
    have e1 := List.getElem?_eq_getElem (l := runs ts m) (i := i) (by rw [hm'.1]; omega)
    have e3 := List.getElem?_eq_getElem (l := xs) (i := i) (by rw [hl]; exact hi)
    rw [e1, e3, Option.map_some]
    congr 1
    exact (units_comb hm' h2 hl hx e1).1 _ e3
  · rw [if_neg (by omega), List.getElem?_eq_none (by rw [hl]; exact hi)]
theorem runs_zs {len : Nat} : ∀ {ts : List Tn}, oks len ts → runs ts (List.replicate len (zs 1)) = List.replicate len (zs 1) := by
  intro ts
  induction ts with
  | nil => intro _; rfl
  | cons t ts ih =>
    intro hk
    have ht := hk t (by simp)
    have hrow : ∀ i, i < len → rowN (List.replicate len (zs 1)) i = zs 1 := fun i hi => by unfold rowN; rw [List.getElem?_replicate, if_pos hi]; rfl
    have hset : ∀ i, (List.replicate len (zs 1)).set i (zs 1) = List.replicate len (zs 1) := fun i => by
      apply List.ext_getElem?
      intro j
      rw [List.getElem?_set]
      by_cases e : i = j
      · subst e
        rw [if_pos rfl, List.length_replicate, List.getElem?_replicate]
      · rw [if_neg e]
    have : t.run (List.replicate len (zs 1)) = List.replicate len (zs 1) := by
      cases t with
      | sw i j => simp only [Tn.run]; rw [hrow _ ht.1, hrow _ ht.2, hset, hset]
      | sc i c => simp only [Tn.run]; rw [hrow _ ht.1, sca_zs, hset]
      | ad i c n => simp only [Tn.run]; rw [hrow _ ht.1, hrow _ ht.2.1, sca_zs, addR_zs, hset]
    show runs ts (t.run _) = _
    rw [this]
    exact ih fun u hu => hk u (by simp [hu])
theorem Solved.inj {W N len : Nat} {m d out ys : List (List Nat)} (hm : Mx len W m) (h : Solved W N len m d out) (hl : ys.length = W) (hy : ∀ y ∈ ys, Rw 1 y) (hs : m.map (fun r => comb 1 r ys) = List.replicate len (zs 1)) : ys = List.replicate W (zs 1) := by
  obtain ⟨ts, h1, h2, h3, h4, h5⟩ := h.ex
  have hm' := hm.runs h1
  have hz : Mx len 1 (List.replicate len (zs 1)) := ⟨by simp, fun r hr => by rw [List.eq_of_mem_replicate hr]; exact Rw.zs 1⟩
  have hz' := hz.runs h1
  have hs := (sys_runs hy hm hz h1).1 hs.symm
  rw [runs_zs h1] at hs
  apply List.ext_getElem?
  intro i
  rcases Nat.lt_or_ge i W with hi | hi
  · have e1 := List.getElem?_eq_getElem (l := runs ts m) (i := i) (by rw [hm'.1]; omega)
    have e3 := List.getElem?_eq_getElem (l := ys) (i := i) (by rw [hl]; exact hi)
    have := (units_comb hm' h2 hl hy e1).1 _ e3
    have e4 := congrArg (fun l : List (List Nat) => l[i]?) hs
    simp only [List.getElem?_map, e1, Option.map_some, this] at e4
    rw [List.getElem?_replicate, if_pos (by omega)] at e4
    rw [e3, List.getElem?_replicate, if_pos hi]
    exact e4.symm
  · rw [List.getElem?_eq_none (by rw [hl]; exact hi), List.getElem?_eq_none (by simpa using hi)]
theorem Rw1 {y : List Nat} (h : Rw 1 y) : ∃ a, y = [a] ∧ a < 256 := by
  obtain ⟨h1, h2⟩ := h
  cases y with
  | nil => simp at h1
  | cons a r => cases r with
    | nil => exact ⟨a, rfl, h2 a (by simp)⟩
    | cons b r => simp at h1
def xsum : List Nat → Nat
  | [] => 0
  | a :: l => a ^^^ xsum l
theorem xsum_zero : ∀ {l : List Nat}, (∀ (c : Nat) b, l[c]? = some b → b = 0) → xsum l = 0
  | [], _ => rfl
  | a :: l, h => by
    have h0 := h 0 a (by simp)
    subst h0
    simp only [xsum, Nat.zero_xor]
    exact xsum_zero fun c b hb => h (c + 1) b (by simpa using hb)
theorem xsum_one : ∀ {l : List Nat} {i a : Nat}, l[i]? = some a → (∀ (c : Nat) b, c ≠ i → l[c]? = some b → b = 0) → xsum l = a
  | [], i, a, h, _ => by simp at h
  | x :: l, 0, a, h, k => by
    simp at h
    subst h
    simp only [xsum]
    rw [xsum_zero (l := l) fun c b hb => k (c + 1) b (by omega) (by simpa using hb), Nat.xor_zero]
  | x :: l, i + 1, a, h, k => by
    have h0 := k 0 x (by omega) (by simp)
    subst h0
    simp only [xsum, Nat.zero_xor]
    exact xsum_one (by simpa using h) fun c b hc hb => k (c + 1) b (by omega) (by simpa using hb)
theorem xsum_two : ∀ {l : List Nat} {i j a b : Nat}, i ≠ j → l[i]? = some a → l[j]? = some b → (∀ (c : Nat) x, c ≠ i → c ≠ j → l[c]? = some x → x = 0) → xsum l = a ^^^ b
  | [], i, j, a, b, _, h, _, _ => by simp at h
  | x :: l, 0, 0, a, b, h, _, _, _ => absurd rfl h
  | x :: l, 0, j + 1, a, b, _, h, k, z => by
    simp at h
    subst h
    simp only [xsum]
    rw [xsum_one (l := l) (i := j) (a := b) (by simpa using k) fun c y hc hb => z (c + 1) y (by omega) (by omega) (by simpa using hb)]
  | x :: l, i + 1, 0, a, b, _, h, k, z => by
    simp at k
    subst k
    simp only [xsum]
    rw [xsum_one (l := l) (i := i) (a := a) (by simpa using h) fun c y hc hb => z (c + 1) y (by omega) (by omega) (by simpa using hb), Nat.xor_comm]
  | x :: l, i + 1, j + 1, a, b, hij, h, k, z => by
    have h0 := z 0 x (by omega) (by omega) (by simp)
    subst h0
    simp only [xsum, Nat.zero_xor]
    exact xsum_two (i := i) (j := j) (by omega) (by simpa using h) (by simpa using k) fun c y hc hd hb => z (c + 1) y (by omega) (by omega) (by simpa using hb)
theorem comb_one : ∀ {r y : List Nat}, r.length = y.length → comb 1 r (y.map fun a => [a]) = [xsum (List.zipWith gm r y)]
  | [], [], _ => rfl
  | a :: r, b :: y, h => by
    simp only [List.map_cons, comb, List.zipWith_cons_cons, xsum, List.map_nil]
    rw [comb_one (by simpa using h)]
    rfl
  | [], _ :: _, h => by simp at h
  | _ :: _, [], h => by simp at h
theorem zipWith_at {r y : List Nat} {c b : Nat} (h : (List.zipWith gm r y)[c]? = some b) : ∃ p q, r[c]? = some p ∧ y[c]? = some q ∧ b = gm p q := by
  rw [List.getElem?_zipWith] at h
  cases hp : r[c]? with
  | none => rw [hp] at h; cases h
  | some p =>
    cases hq : y[c]? with
    | none => rw [hp, hq] at h; cases h
    | some q => rw [hp, hq] at h; cases h; exact ⟨p, q, rfl, rfl, rfl⟩
theorem zipWith_get {r y : List Nat} {c p q : Nat} (hp : r[c]? = some p) (hq : y[c]? = some q) : (List.zipWith gm r y)[c]? = some (gm p q) := by rw [List.getElem?_zipWith, hp, hq]
/-- not to be solved, though it has a solution: then something that is not nothing comes to nothing -/
theorem Unsolved.null {W N len : Nat} {m d xs : List (List Nat)} (hm : Mx len W m) (hd : Mx len N d) (h : Unsolved W N len m d) (hl : xs.length = W) (hx : ∀ x ∈ xs, Rw N x) (hs : d = m.map fun r => comb N r xs) :
    ∃ ys, ys.length = W ∧ (∀ y ∈ ys, Rw 1 y) ∧ m.map (fun r => comb 1 r ys) = List.replicate len (zs 1) ∧ ys ≠ List.replicate W (zs 1) := by
  obtain ⟨ts, h1, h2⟩ := h.ex
  have hm' := hm.runs h1
  have hd' := hd.runs h1
  rcases h2 with ⟨n, h2, h3, h4, h5⟩ | ⟨h2, h3, i, e, h4, h5, x, h6, h7⟩
  · have hv : ∀ c, c < W → ∃ a, (if c < n then ((rowN (runs ts m) c)[n]?).getD 0 else if c = n then 1 else 0) = a ∧ a < 256 := fun c hc => by
      refine ⟨_, rfl, ?_⟩
      split
      · rename_i hcn
        have hr := hm'.row (show c < len by omega)
        cases hq : (rowN (runs ts m) c)[n]? with
        | none => simp
        | some a => exact hr.2 a (List.mem_of_getElem? hq)
      · split <;> omega
    generalize hy : (List.range W).map (fun c => if c < n then ((rowN (runs ts m) c)[n]?).getD 0 else if c = n then 1 else 0) = y at *
    have hyl : y.length = W := by rw [← hy]; simp
    have hyc : ∀ c, c < W → y[c]? = some (if c < n then ((rowN (runs ts m) c)[n]?).getD 0 else if c = n then 1 else 0) := fun c hc => by
      rw [← hy, List.getElem?_map, List.getElem?_range hc]; rfl
    have hyb : B8 y := fun a ha => by
      obtain ⟨c, hc⟩ := List.getElem?_of_mem ha
      have hcW : c < W := by
        rcases Nat.lt_or_ge c W with g | g
        · exact g
        · rw [List.getElem?_eq_none (by omega)] at hc; cases hc
      rw [hyc c hcW] at hc
      cases hc
      obtain ⟨a, e, ha⟩ := hv c hcW
      rw [e]; exact ha
    have hyr : ∀ z ∈ y.map (fun a => [a]), Rw 1 z := fun z hz => by
      obtain ⟨a, ha, rfl⟩ := List.mem_map.1 hz
      exact ⟨rfl, fun b hb => by simp at hb; subst hb; exact hyb b ha⟩
    refine ⟨y.map fun a => [a], by rw [List.length_map, hyl], hyr, ?_, fun he => ?_⟩
    · have hz : Mx len 1 (List.replicate len (zs 1)) := ⟨by simp, fun r hr => by rw [List.eq_of_mem_replicate hr]; exact Rw.zs 1⟩
      refine ((sys_runs hyr hm hz h1).2 ?_).symm
      rw [runs_zs h1]
      apply List.ext_getElem?
      intro i
      rw [List.getElem?_map]
      rcases Nat.lt_or_ge i len with hi | hi
      · have e1 := List.getElem?_eq_getElem (l := runs ts m) (i := i) (by rw [hm'.1]; exact hi)
        generalize hr : (runs ts m)[i]'(by rw [hm'.1]; exact hi) = r at e1
        have hrw := hm'.2 r (by rw [← hr]; exact List.getElem_mem _)
        rw [e1, Option.map_some, List.getElem?_replicate, if_pos hi, comb_one (by rw [hrw.1, hyl])]
        congr 1
        show [0] = _
        congr 1
        symm
        have hrn : ∃ v, r[n]? = some v ∧ v < 256 := ⟨r[n]'(by rw [hrw.1]; exact h2), List.getElem?_eq_getElem _, hrw.2 _ (List.getElem_mem _)⟩
        obtain ⟨v, hv1, hv2⟩ := hrn
        have hzero : ∀ (c : Nat) p q, c ≠ i → c ≠ n → r[c]? = some p → y[c]? = some q → gm p q = 0 := fun c p q hci hcn hp hq => by
          have hcW : c < W := by
            rcases Nat.lt_or_ge c W with g | g
            · exact g
            · rw [List.getElem?_eq_none (by omega)] at hq; cases hq
          rcases Nat.lt_or_ge c n with g | g
          · have := h4 c g i r e1
            rw [if_neg (Ne.symm hci), hp] at this
            cases this
            exact zero_gm q
          · have := hyc c hcW
            rw [hq, if_neg (by omega), if_neg hcn] at this
            cases this
            exact gm_zero p
        have hyn := hyc n h2
        rw [if_neg (by omega), if_pos rfl] at hyn
        rcases Nat.lt_or_ge i n with g | g
        · have hri := h4 i g i r e1
          rw [if_pos rfl] at hri
          have hyi := hyc i (by omega)
          have e3 : rowN (runs ts m) i = r := by unfold rowN; rw [e1]; rfl
          rw [if_pos g, e3, hv1, Option.getD_some] at hyi
          rw [xsum_two (i := i) (j := n) (by omega) (zipWith_get hri hyi) (zipWith_get hv1 hyn) fun c x hci hcn hx => by
            obtain ⟨p, q, hp, hq, rfl⟩ := zipWith_at hx
            exact hzero c p q hci hcn hp hq]
          rw [one_gm hv2, gm_comm hv2 (by omega), one_gm hv2, Nat.xor_self]
        · have hr0 := h5 i r g e1
          refine xsum_zero fun c x hx => ?_
          obtain ⟨p, q, hp, hq, rfl⟩ := zipWith_at hx
          by_cases hcn : c = n
          · subst hcn
            rw [hp] at hr0
            cases hr0
            exact zero_gm q
          · by_cases hci : c = i
            · subst hci
              have hcW : c < W := by
                rcases Nat.lt_or_ge c W with g' | g'
                · exact g'
                · rw [List.getElem?_eq_none (by omega)] at hq; cases hq
              have := hyc c hcW
              rw [hq, if_neg (by omega), if_neg hcn] at this
              cases this
              exact gm_zero p
            · exact hzero c p q hci hcn hp hq
      · rw [List.getElem?_eq_none (l := List.replicate len (zs 1)) (by simpa using hi), List.getElem?_eq_none (l := runs ts m) (by rw [hm'.1]; exact hi)]
        rfl
    · have := congrArg (fun l : List (List Nat) => l[n]?) he
      simp only [List.getElem?_map, hyc n h2, Option.map_some] at this
      rw [List.getElem?_replicate, if_pos h2, if_neg (by omega)] at this
      simp [zs] at this
  · exfalso
    rw [sys_runs hx hm hd h1] at hs
    rw [hs, List.getElem?_map, Option.map_eq_some_iff] at h5
    obtain ⟨r, hr, rfl⟩ := h5
    rw [(units_comb hm' h2 hl hx hr).2 h4] at h6
    exact h7 (List.eq_of_mem_replicate h6)
end Go.Proofs.YtkimkgbppegkhaaGreat.Cm
