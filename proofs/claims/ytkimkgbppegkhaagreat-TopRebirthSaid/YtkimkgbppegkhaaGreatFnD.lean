/- The clean machine's walks of rows: multiples and sums. -/
import Derived.Test.YtkimkgbppegkhaaGreatFnC
import Derived.Test.YtkimkgbppegkhaaGreatFnP
import Derived.Test.YtkimkgbppegkhaaGreatCmZ
namespace Go.Proofs.YtkimkgbppegkhaaGreat.Cm
open Go Go.RowKit Go.Proofs.YtkimkgbppegkhaaGreat.Gf
theorem Top.new {H : Heap} {n : Nat} (h : Top H n) (ob : O) : Top (upd H n (some ob)) (n + 1) := fun k hk => by rw [upd_ne _ _ (by omega)]; exact h k (by omega)
theorem Top.set {H : Heap} {n o : Nat} (h : Top H n) (ho : o < n) (ob : O) : Top (upd H o (some ob)) n := fun k hk => by rw [upd_ne _ _ (by omega)]; exact h k hk
theorem Top.lt {H : Heap} {n k : Nat} (h : Top H n) {ob : O} (hk : H k = some ob) : k < n := by
  rcases Nat.lt_or_ge k n with h' | h'
  · exact h'
  · rw [h k h'] at hk; cases hk
theorem splice_bs {pre post : List Nat} {x y i : Nat} (hi : pre.length = i) : splice (bs (pre ++ x :: post)) (0 + i * 1) [.int .u8 (y : Int)] = bs (pre ++ y :: post) := by
  subst hi
  unfold splice bs
  rw [show 0 + pre.length * 1 = pre.length by omega, List.map_append, List.map_append, List.map_cons, List.map_cons]
  rw [show (List.map (fun (x : Nat) => F.int .u8 (x : Int)) pre ++ F.int .u8 (x : Int) :: List.map (fun (x : Nat) => F.int .u8 (x : Int)) post).take pre.length = List.map (fun (x : Nat) => F.int .u8 (x : Int)) pre by rw [List.take_append_of_le_length (by rw [List.length_map]; exact Nat.le_refl _), List.take_of_length_le (by rw [List.length_map]; exact Nat.le_refl _)]]
  rw [show (List.map (fun (x : Nat) => F.int .u8 (x : Int)) pre ++ F.int .u8 (x : Int) :: List.map (fun (x : Nat) => F.int .u8 (x : Int)) post).drop (pre.length + [F.int .u8 (y : Int)].length) = List.map (fun (x : Nat) => F.int .u8 (x : Int)) post by
    rw [show pre.length + [F.int .u8 (y : Int)].length = (List.map (fun (x : Nat) => F.int .u8 (x : Int)) pre).length + 1 by simp, List.drop_append]
    simp]
  simp
theorem one_gm {a : Nat} (ha : a < 256) : gm 1 a = a := by
  have h := I_mul_all
  rw [List.all_eq_true] at h
  exact Nat.eq_of_beq_eq_true (h a (List.mem_range.mpr ha))
theorem zeros_bs (k : Nat) : repeatL [.int .u8 0] k = bs (List.replicate k 0) := by
  induction k with
  | zero => rfl
  | succ k ih => rw [repeatL, ih]; rfl
theorem row2 {H : Heap} {n a b : Nat} : rowA (upd H n (some (.cells [.int .u8 (a : Int), .int .u8 (b : Int)] true))) 1 (.sl n 0 1 2 none) = some (bs [a, b]) := by
  simp only [rowA, upd_same]
  rfl
/-- a call, of which less is said -/
theorem CallsC.less {P : Program} {f : Nat} {args : List V} {H H' G : Heap} {n n' n2 : Nat} {v : V} (h : CallsC P f args H n v H' n') (hG : ∀ id o, G id = some o → H' id = some o) (hn : n' ≤ n2) : CallsC P f args H n v G n2 := by
  obtain ⟨⟨h1, h2⟩, h3⟩ := h
  refine ⟨⟨Nat.le_trans h1 hn, fun k hk => ?_⟩, fun ε w rargs R hf ha => Calls.mono (h3 ε w rargs R (hf.sub (Nat.le_refl _) hn) ha) fun x w' hp => ?_⟩
  · rcases h2 k (by cases hq : G k with | none => exact absurd hq hk | some o => rw [hG k o hq]; simp) with h | h
    · exact .inl h
    · exact .inr (by omega)
  · obtain ⟨rv, ε', g1, g2, S⟩ := hp
    exact ⟨rv, ε', g1, g2, (S.sub hG).wide (Nat.le_refl _) hn⟩
theorem scale_loop {o id off len c : Nat} {cap : Option Nat} (l : List Nat) (hl : len = l.length) (hb : B8 l) (hlt : len < 9223372036854775808) (hc : c < 256) (hne : id ≠ o) :
    ∀ (k i : Nat) (pre : List Nat) (H : Heap) (n : Nat) (K : Ko), k + i = len → pre.length = i → H o = some (.cells (bs (pre ++ List.replicate k 0)) true) → (∀ (i : Nat) (x : Nat), l[i]? = some x → atA H id (off + i) (.int .u8 (x : Int))) → Top H n →
    (∀ A H', A 5 = some (vf (.sl o 0 1 len none)) → H' o = some (.cells (bs (pre ++ (l.drop i).map (gm c))) true) → (∀ j ob, j ≠ o → H j = some ob → H' j = some ob) → Top H' (n + k) → K (.exit 0) A H' (n + k)) →
    ToL Tryz.prog 141 [0, 0, 1, 0, 1, 1] (tl [(0, vb c), (5, vf (.sl o 0 1 len none)), (11, vf (.sl id off 1 len cap)), (12, vi len), (13, vi i)]) H n K := by
  intro k
  induction k with
  | zero =>
    intro i pre H n K hk hp ho hh ht hK
    refine ToL.round ?_
    refine To.seq (by kernel_rfl) ?_
    refine To.region (by kernel_rfl) ?_
    refine Sg.go 1 (by kernel_rfl) ?_
    refine Sg.done (by kernel_rfl) ?_
    show To Tryz.prog 141 [1, 0, 0, 1, 0, 1, 1] _ _ _ _
    refine To.seq (by kernel_rfl) ?_
    refine To.ifB (ltI (i : Int) (len : Int)) (by kernel_rfl) (by kernel_rfl) (fun h0 => ?_) (fun h0 => ?_)
    · skip
      exact absurd (ltI_true h0) (by omega)
    · skip
      refine To.exit 0 (by kernel_rfl) ?_
      exact hK _ H (by kernel_rfl) (by rw [ho, List.drop_of_length_le (by omega)]; rfl) (fun j ob _ h => h) ht
  | succ k ih =>
    intro i pre H n K hk hp ho hh ht hK
    have hi : i < l.length := by omega
    have hx : l[i]? = some l[i] := List.getElem?_eq_getElem hi
    have hx8 : l[i] < 256 := hb _ (List.getElem_mem hi)
    have hd : l.drop i = l[i] :: l.drop (i + 1) := List.drop_eq_getElem_cons hi
    have hon : o ≠ n := by have := ht.lt ho; omega
    refine ToL.round ?_
    refine To.seq (by kernel_rfl) ?_
    refine To.region (by kernel_rfl) ?_
    refine Sg.go 1 (by kernel_rfl) ?_
    refine Sg.done (by kernel_rfl) ?_
    show To Tryz.prog 141 [1, 0, 0, 1, 0, 1, 1] _ _ _ _
    refine To.seq (by kernel_rfl) ?_
    refine To.ifB (ltI (i : Int) (len : Int)) (by kernel_rfl) (by kernel_rfl) (fun h0 => ?_) (fun h0 => ?_)
    · skip
      refine To.skip (by kernel_rfl) ?_
      show To Tryz.prog 141 [1, 1, 0, 0, 1, 0, 1, 1] _ _ _ _
      refine To.seq (by kernel_rfl) ?_
      refine To.block 1 (by kernel_rfl) ?_
      refine To.seq (by kernel_rfl) ?_
      refine To.region (by kernel_rfl) ?_
      refine Sg.go 1 (by kernel_rfl) ?_
      refine Sg.op (some 16) (by kernel_rfl) (jIdx (id := id) (off := off) (sz := 1) (len := len) (k := i) (by omega) (by kernel_rfl)) ?_
      refine Sg.op (some 17) (by kernel_rfl) (jLoadX (off := off + i * 1) (by rw [Nat.mul_one]; exact hh i _ hx) (by kernel_rfl)) ?_
      refine Sg.go 2 (by kernel_rfl) ?_
      refine Sg.done (by kernel_rfl) ?_
      show To Tryz.prog 141 [1, 0, 0, 1, 1, 0, 0, 1, 0, 1, 1] _ _ _ _
      refine To.region (by kernel_rfl) ?_
      refine Sg.go 4 (by kernel_rfl) ?_
      refine Sg.op (some 22) (by kernel_rfl) (jFresh (v := vf (.sl n 0 1 2 none)) (ob := .cells [.int .u8 (c : Int), .int .u8 (l[i] : Int)] true) (by kernel_rfl)) ?_
      refine Sg.op (some 23) (by kernel_rfl) (jCall (by kernel_rfl) (mul_any (n + 1) [c, l[i]] row2 (by intro x hx; simp at hx; rcases hx with rfl | rfl <;> assumption) (by simp)) (by kernel_rfl)) ?_
      refine Sg.op (some 24) (by kernel_rfl) (jIdx (id := o) (off := 0) (sz := 1) (len := len) (k := i) (by omega) (by kernel_rfl)) ?_
      refine Sg.op none (by kernel_rfl) (jStore (id := o) (off := 0 + i * 1) (new := [.int .u8 ((prodN 1 [c, l[i]] : Nat) : Int)]) (cs := bs (pre ++ 0 :: List.replicate k 0)) (ex := true) (by rw [upd_ne _ _ hon]; exact ho) (by rw [bs_len]; simp; omega) (by kernel_rfl)) ?_
      refine Sg.done (by kernel_rfl) ?_
      show To Tryz.prog 141 [1, 1, 1, 0, 0, 1, 0, 1, 1] _ _ _ _
      refine To.region (by kernel_rfl) ?_
      refine Sg.op (some 25) (by kernel_rfl) (jBin (b_add .i64 i 1 ((i + 1 : Nat) : Int) (wrap64 (by omega) (by omega))) (by kernel_rfl)) ?_
      refine Sg.go 1 (by kernel_rfl) ?_
      refine Sg.done (by kernel_rfl) ?_
      refine ToL.only [0, 5, 11, 12, 13] [(0, vb c), (5, vf (.sl o 0 1 len none)), (11, vf (.sl id off 1 len cap)), (12, vi len), (13, vi (i + 1))] (by kernel_rfl) ?_
      refine ih (i + 1) (pre ++ [gm c l[i]]) _ (n + 1) K (by omega) (by simp; omega) ?_ ?_ ?_ (fun A H' h1 h2 h3 h4 => ?_)
      · rw [upd_same, splice_bs hp, List.append_assoc, List.singleton_append, show prodN 1 [c, l[i]] = gm c l[i] by simp only [prodN, one_gm hc]]
      · exact fun j y hj => (hh j y hj).mono fun ob hob => by rw [upd_ne _ _ hne, upd_ne _ _ (by have := ht.lt hob; omega)]; exact hob
      · exact (ht.new _).set (by have := ht.lt ho; omega) _
      · have hn : n + (k + 1) = n + 1 + k := by omega
        rw [hn] at hK
        refine hK A H' h1 ?_ (fun j ob hj hob => h3 j ob hj ?_) h4
        · rw [h2, hd, List.map_cons, List.append_assoc, List.singleton_append]
        · rw [upd_ne _ _ hj, upd_ne _ _ (by have := ht.lt hob; omega)]; exact hob
    · skip
      exact absurd (ltI_false h0) (by omega)
theorem scale_any {H : Heap} {n id off len c : Nat} {cap : Option Nat} (l : List Nat) (hr : rowA H 1 (.sl id off 1 len cap) = some (bs l)) (hb : B8 l) (hc : c < 256) (hlt : l.length ≤ 140737488355328) (ht : Top H n) :
    CallsC Tryz.prog 141 [vb c, vf (.sl id off 1 len cap)] H n (vf (.sl n 0 1 l.length none)) (upd H n (some (.cells (bs (l.map (gm c))) true))) (n + 1 + l.length) := by
  have h : ∃ v H' n', CallsC Tryz.prog 141 [vb c, vf (.sl id off 1 len cap)] H n v H' n' ∧ (v = vf (.sl n 0 1 l.length none) ∧ H' n = some (.cells (bs (l.map (gm c))) true) ∧ (∀ j ob, j ≠ n → H j = some ob → H' j = some ob) ∧ n' = n + 1 + l.length) := by
    refine CallsC.of_to (by kernel_rfl) ?_
    obtain ⟨_, hlen, ⟨ob0, hob0⟩, hat⟩ := rowA_at hr
    have hl : len = l.length := by
      rw [bs_len] at hlen
      omega
    have hrow : ∀ (i : Nat) (x : Nat), l[i]? = some x → atA H id (off + i) (.int .u8 (x : Int)) := fun i x hx => hat i _ (bs_at hx)
    have hne : id ≠ n := by have := ht.lt hob0; omega
    rw [← hl]
    refine To.seq (by kernel_rfl) ?_
    refine To.region (by kernel_rfl) ?_
    refine Sg.go 1 (by kernel_rfl) ?_
    refine Sg.done (by kernel_rfl) ?_
    show To Tryz.prog 141 [1] _ _ _ _
    refine To.seq (by kernel_rfl) ?_
    refine To.region (by kernel_rfl) ?_
    refine Sg.go 1 (by kernel_rfl) ?_
    refine Sg.op (some 9) (by kernel_rfl) (jLen (l := len) (by kernel_rfl)) ?_
    refine Sg.op (some 10) (by kernel_rfl) (jMake (ti := ⟨1, 1, [.int .u8 0]⟩) (a := len) (by simp only; omega) (by kernel_rfl)) ?_
    refine Sg.go 1 (by kernel_rfl) ?_
    refine Sg.done (by kernel_rfl) ?_
    show To Tryz.prog 141 [1, 1] _ _ _ _
    refine To.seq (by kernel_rfl) ?_
    refine To.seq (by kernel_rfl) ?_
    refine To.region (by kernel_rfl) ?_
    refine Sg.go 1 (by kernel_rfl) ?_
    refine Sg.op (some 12) (by kernel_rfl) (jLen (l := len) (by kernel_rfl)) ?_
    refine Sg.go 1 (by kernel_rfl) ?_
    refine Sg.done (by kernel_rfl) ?_
    show To Tryz.prog 141 [1, 0, 1, 1] _ _ _ _
    refine To.block 0 (by kernel_rfl) ?_
    refine To.loop (by kernel_rfl) ?_
    refine ToL.only [0, 5, 11, 12, 13] [(0, vb c), (5, vf (.sl n 0 1 len none)), (11, vf (.sl id off 1 len cap)), (12, vi len), (13, vi 0)] (by kernel_rfl) ?_
    refine scale_loop l hl hb (by omega) hc hne len 0 [] _ (n + 1) _ (by omega) rfl (by rw [upd_same, zeros_bs]; rfl) (fun j y hj => (hrow j y hj).mono fun ob hob => by rw [upd_ne _ _ hne]; exact hob) (ht.new _) (fun A H' h1 h2 h3 h4 => ?_)
    show To Tryz.prog 141 [1, 1, 1] _ _ _ _
    refine To.only [5] [(5, vf (.sl n 0 1 len none))] (by simp only [getsL, h1]) ?_
    refine To.seq (by kernel_rfl) ?_
    refine To.region (by kernel_rfl) ?_
    refine Sg.go 2 (by kernel_rfl) ?_
    refine Sg.done (by kernel_rfl) ?_
    show To Tryz.prog 141 [1, 1, 1, 1] _ _ _ _
    refine To.ret (by kernel_rfl) ?_
    exact ⟨.inr rfl, _, by kernel_rfl, rfl, h2, fun j ob hj hob => h3 j ob hj (by rw [upd_ne _ _ hj]; exact hob), rfl⟩
  obtain ⟨v, H', n', h1, rfl, h2, h3, rfl⟩ := h
  refine h1.less (fun j ob hj => ?_) (Nat.le_refl _)
  by_cases e : j = n
  · subst e; rw [upd_same] at hj; cases hj; exact h2
  · rw [upd_ne _ _ e] at hj; exact h3 j ob e hj
end Go.Proofs.YtkimkgbppegkhaaGreat.Cm
