/- The clean machine: calls of the elements' functions, whose results are told by their contracts. -/
import Derived.Test.YtkimkgbppegkhaaGreatFnE
namespace Go.Proofs.YtkimkgbppegkhaaGreat.Cm
open Go Go.RowKit Go.Proofs.YtkimkgbppegkhaaGreat.Gf
noncomputable def asK (k : IntKind) (m : Nat) (v : V) : Option Nat := onF v (fun x => onInt x (fun j i => @Bool.rec (fun _ => Option Nat) none (@Int.rec (fun _ => Option Nat) (fun a => @Bool.rec (fun _ => Option Nat) none (some a) (Nat.ble a m)) (fun _ => none) i) (kEq j k)) none) none
theorem asK_spec {k : IntKind} {m : Nat} {v : V} {a : Nat} (h : asK k m v = some a) : v = vf (.int k (a : Int)) ∧ a ≤ m := by
  cases v with
  | tup l => cases h
  | u u =>
    cases u with
    | agg l => cases h
    | fn g l => cases h
    | f x =>
      cases x <;> first
        | (cases h; done)
        | skip
      rename_i j i
      replace h : @Bool.rec (fun _ => Option Nat) none (@Int.rec (fun _ => Option Nat) (fun a => @Bool.rec (fun _ => Option Nat) none (some a) (Nat.ble a m)) (fun _ => none) i) (kEq j k) = some a := h
      cases hk : kEq j k with
      | false => rw [hk] at h; cases h
      | true =>
        rw [hk] at h
        replace h : @Int.rec (fun _ => Option Nat) (fun a => @Bool.rec (fun _ => Option Nat) none (some a) (Nat.ble a m)) (fun _ => none) i = some a := h
        have hjk := (kEq_iff j k).1 hk
        clear hk
        subst hjk
        cases i with
        | negSucc i => cases h
        | ofNat i =>
          replace h : @Bool.rec (fun _ => Option Nat) none (some i) (Nat.ble i m) = some a := h
          cases hb : Nat.ble i m with
          | false => rw [hb] at h; cases h
          | true => rw [hb] at h; cases h; exact ⟨rfl, Nat.le_of_ble_eq_true hb⟩
noncomputable def asBs : List F → Option (List Nat)
  | [] => some []
  | x :: r => onO (asK .u8 255 (vf x)) fun a => onO (asBs r) fun l => some (a :: l)
theorem asBs_spec : ∀ {cs : List F} {l : List Nat}, asBs cs = some l → cs = bs l ∧ B8 l
  | [], l, h => by cases h; exact ⟨rfl, fun x hx => (by cases hx)⟩
  | x :: r, l, h => by
    obtain ⟨a, h1, h2⟩ := onO_some h
    obtain ⟨l', h3, h4⟩ := onO_some h2
    cases h4
    obtain ⟨e1, e2⟩ := asBs_spec h3
    obtain ⟨g1, g2⟩ := asK_spec h1
    cases g1
    refine ⟨by rw [e1]; rfl, fun y hy => ?_⟩
    rcases List.mem_cons.1 hy with rfl | hy
    · omega
    · exact e2 y hy
noncomputable def asRow (H : T O) (x : F) : Option (List Nat) := onO (rowA H.get 1 x) asBs
noncomputable def lim47 (l : List Nat) : Option (List Nat) := @Bool.rec (fun _ => Option (List Nat)) none (some l) (Nat.ble l.length 140737488355328)
noncomputable def asRows (H : T O) : List F → Option (List (List Nat))
  | [] => some []
  | x :: r => onO (asRow H x) fun a => onO (lim47 a) fun a => onO (asRows H r) fun l => some (a :: l)
theorem lim47_spec {l k : List Nat} (h : lim47 l = some k) : k = l ∧ l.length ≤ 140737488355328 := by
  unfold lim47 at h
  cases hb : Nat.ble l.length 140737488355328 with
  | false => rw [hb] at h; cases h
  | true => rw [hb] at h; cases h; exact ⟨rfl, Nat.le_of_ble_eq_true hb⟩
theorem asRows_spec {H : T O} : ∀ {fs : List F} {rs : List (List Nat)}, asRows H fs = some rs → All2 (RowV H.get) fs rs
  | [], rs, h => by cases h; trivial
  | x :: r, rs, h => by
    obtain ⟨a, h1, h2⟩ := onO_some h
    obtain ⟨a', h3, h4⟩ := onO_some h2
    obtain ⟨l, h5, h6⟩ := onO_some h4
    cases h6
    obtain ⟨rfl, hl⟩ := lim47_spec h3
    obtain ⟨cs, g1, g2⟩ := onO_some h1
    obtain ⟨rfl, g3⟩ := asBs_spec g2
    exact ⟨⟨g1, g3, hl⟩, asRows_spec h5⟩
noncomputable def pickB {α : Type} (b : Bool) (x y : α) : α := @Bool.rec (fun _ => α) y x b
theorem pickB_some {α : Type} {f k : Nat} {x y : Option α} {r : α} (h : pickB (Nat.beq f k) x y = some r) : (f = k ∧ x = some r) ∨ y = some r := by
  cases hb : Nat.beq f k with
  | true => rw [hb] at h; exact .inl ⟨Nat.eq_of_beq_eq_true hb, h⟩
  | false => rw [hb] at h; exact .inr h
noncomputable def arg1 {β : Type} (l : List V) (k : V → Option β) : Option β := @List.rec V (fun _ => Option β) none (fun x r _ => @List.rec V (fun _ => Option β) (k x) (fun _ _ _ => none) r) l
noncomputable def arg2 {β : Type} (l : List V) (k : V → V → Option β) : Option β := @List.rec V (fun _ => Option β) none (fun x r _ => arg1 r (k x)) l
noncomputable def arg3 {β : Type} (l : List V) (k : V → V → V → Option β) : Option β := @List.rec V (fun _ => Option β) none (fun x r _ => arg2 r (k x)) l
theorem arg1_some {β : Type} {l : List V} {k : V → Option β} {y : β} (h : arg1 l k = some y) : ∃ x, l = [x] ∧ k x = some y := by
  cases l with
  | nil => cases h
  | cons a l => cases l with
    | nil => exact ⟨a, rfl, h⟩
    | cons b l => cases h
theorem arg2_some {β : Type} {l : List V} {k : V → V → Option β} {y : β} (h : arg2 l k = some y) : ∃ x z, l = [x, z] ∧ k x z = some y := by
  cases l with
  | nil => cases h
  | cons a l => obtain ⟨z, rfl, h2⟩ := arg1_some (show arg1 l (k a) = some y from h); exact ⟨a, z, rfl, h2⟩
theorem arg3_some {β : Type} {l : List V} {k : V → V → V → Option β} {y : β} (h : arg3 l k = some y) : ∃ x z w, l = [x, z, w] ∧ k x z w = some y := by
  cases l with
  | nil => cases h
  | cons a l => obtain ⟨z, w, rfl, h2⟩ := arg2_some (show arg2 l (k a) = some y from h); exact ⟨a, z, w, rfl, h2⟩
theorem onF_some {α : Type} {v : V} {k : F → Option α} {y : α} (h : onF v k none = some y) : ∃ x, v = vf x ∧ k x = some y := by
  cases v with
  | tup l => cases h
  | u u => cases u with
    | f x => exact ⟨x, rfl, h⟩
    | agg l => cases h
    | fn g l => cases h
noncomputable def orc : CallF := fun f args H n =>
  pickB (Nat.beq f 230) (arg2 args fun x y => onO (asK .u8 255 x) fun a => onO (asK .u8 255 y) fun b => some (vb (gm a b), H, n)) <|
  pickB (Nat.beq f 198) (arg1 args fun x => onF x (fun x => onO (asRow H x) fun l => onO (lim47 l) fun l => pickB (Nat.beq l.length 0) none (some (vb (prodN 1 l), H, n))) none) <|
  pickB (Nat.beq f 92) (arg1 args fun x => onF x (fun x => onO (asRow H x) fun l => onO (lim47 l) fun l => pickB (Nat.beq l.length 0) none (some (vb (sumN 0 l), H, n))) none) <|
  pickB (Nat.beq f 197) (arg2 args fun x y => onO (asK .u8 255 x) fun a => onO (asK .i64 255 y) fun b => some (vb (pwN 8 a b 1), H, n)) <|
  pickB (Nat.beq f 140) (arg1 args fun x => onO (asK .u8 255 x) fun a => some (vb (iv a), H, n)) <|
  pickB (Nat.beq f 50) (arg1 args fun x => onO (asK .u32 4294967295 x) fun a => some (vw (stirN a), H, n)) <|
  pickB (Nat.beq f 30) (arg3 args fun x y z => onO (asK .u32 4294967295 x) fun a => onO (asK .u32 4294967295 y) fun b => onO (asK .i64 4294967295 z) fun m => pickB (Nat.beq m 0) none (some (vi (randN a b m), H, n))) none
theorem row_sl {H : Heap} {x : F} {l : List Nat} (h : rowA H 1 x = some (bs l)) : x = .sl0 ∧ l = [] ∨ ∃ id off len cap, x = .sl id off 1 len cap := by
  cases x with
  | sl0 =>
    left
    simp only [rowA, Option.some.injEq] at h
    cases l with
    | nil => exact ⟨rfl, rfl⟩
    | cons a b => simp [bs] at h
  | sl id off sz len cap => obtain ⟨rfl, _⟩ := rowA_at h; exact .inr ⟨id, off, len, cap, rfl⟩
  | _ => simp [rowA] at h
theorem pickZ_some {α : Type} {m : Nat} {y : Option α} {r : α} (h : pickB (Nat.beq m 0) none y = some r) : m ≠ 0 ∧ y = some r := by
  cases hb : Nat.beq m 0 with
  | true => rw [hb] at h; cases h
  | false => rw [hb] at h; exact ⟨Nat.ne_of_beq_eq_false hb, h⟩
theorem orc_ok : CallF.Ok Tryz.prog orc := by
  intro f args H n v H' n' ht h
  unfold orc at h
  rcases pickB_some h with ⟨rfl, h⟩ | h
  · obtain ⟨x, y, rfl, h⟩ := arg2_some h
    obtain ⟨a, h1, h⟩ := onO_some h
    obtain ⟨b, h2, h⟩ := onO_some h
    cases h
    obtain ⟨rfl, g1⟩ := asK_spec h1
    obtain ⟨rfl, g2⟩ := asK_spec h2
    exact times_any a b (by omega) (by omega) _ _
  rcases pickB_some h with ⟨rfl, h⟩ | h
  · obtain ⟨x, rfl, h⟩ := arg1_some h
    obtain ⟨x, rfl, h⟩ := onF_some h
    obtain ⟨l, h1, h⟩ := onO_some h
    obtain ⟨l', h2, h⟩ := onO_some h
    obtain ⟨h3, h⟩ := pickZ_some h
    cases h
    obtain ⟨rfl, hl⟩ := lim47_spec h2
    obtain ⟨cs, g1, g2⟩ := onO_some h1
    obtain ⟨rfl, g3⟩ := asBs_spec g2
    rcases row_sl g1 with ⟨rfl, rfl⟩ | ⟨id, off, len, cap, rfl⟩
    · exact absurd rfl h3
    · exact mul_any _ _ g1 g3 (by omega)
  rcases pickB_some h with ⟨rfl, h⟩ | h
  · obtain ⟨x, rfl, h⟩ := arg1_some h
    obtain ⟨x, rfl, h⟩ := onF_some h
    obtain ⟨l, h1, h⟩ := onO_some h
    obtain ⟨l', h2, h⟩ := onO_some h
    obtain ⟨h3, h⟩ := pickZ_some h
    cases h
    obtain ⟨rfl, hl⟩ := lim47_spec h2
    obtain ⟨cs, g1, g2⟩ := onO_some h1
    obtain ⟨rfl, g3⟩ := asBs_spec g2
    rcases row_sl g1 with ⟨rfl, rfl⟩ | ⟨id, off, len, cap, rfl⟩
    · exact absurd rfl h3
    · exact add_any _ _ g1 g3 (by omega)
  rcases pickB_some h with ⟨rfl, h⟩ | h
  · obtain ⟨x, y, rfl, h⟩ := arg2_some h
    obtain ⟨a, h1, h⟩ := onO_some h
    obtain ⟨b, h2, h⟩ := onO_some h
    cases h
    obtain ⟨rfl, g1⟩ := asK_spec h1
    obtain ⟨rfl, g2⟩ := asK_spec h2
    exact power_any a b (by omega) (by omega) _ _
  rcases pickB_some h with ⟨rfl, h⟩ | h
  · obtain ⟨x, rfl, h⟩ := arg1_some h
    obtain ⟨a, h1, h⟩ := onO_some h
    cases h
    obtain ⟨rfl, g1⟩ := asK_spec h1
    exact inv_any a (by omega) _ _
  rcases pickB_some h with ⟨rfl, h⟩ | h
  · obtain ⟨x, rfl, h⟩ := arg1_some h
    obtain ⟨a, h1, h⟩ := onO_some h
    cases h
    obtain ⟨rfl, g1⟩ := asK_spec h1
    exact stir_any a (by omega) _ _
  rcases pickB_some h with ⟨rfl, h⟩ | h
  · obtain ⟨x, y, z, rfl, h⟩ := arg3_some h
    obtain ⟨a, h1, h⟩ := onO_some h
    obtain ⟨b, h2, h⟩ := onO_some h
    obtain ⟨m, h3, h⟩ := onO_some h
    obtain ⟨h4, h⟩ := pickZ_some h
    cases h
    obtain ⟨rfl, g1⟩ := asK_spec h1
    obtain ⟨rfl, g2⟩ := asK_spec h2
    obtain ⟨rfl, g3⟩ := asK_spec h3
    exact rand_any a b m (by omega) (by omega) (by omega) (by omega) _ _
  · cases h
/-- and of rows -/
noncomputable def orcR : CallF := fun f args H n =>
  pickB (Nat.beq f 65) (arg2 args fun x y => onO (asK .i64 1000 x) fun N => onF y (fun y => onO (rowA H.get 1 y) fun fs => onO (asRows H fs) fun rs => pickB (Nat.beq (Nat.sub 1000000000 (Nat.add n rs.length)) 0) none (some (vf (.sl n 0 1 N none), H.set n (some (.cells (bs (sumRows N rs)) true)), Nat.add n (Nat.succ (Nat.mul rs.length N))))) none) <|
  pickB (Nat.beq f 141) (arg2 args fun x y => onO (asK .u8 255 x) fun c => onF y (fun y => onO (asRow H y) fun l => onO (lim47 l) fun l => pickB (Nat.beq l.length 0) none (pickB (Nat.beq (Nat.sub 1000000000 n) 0) none (some (vf (.sl n 0 1 l.length none), H.set n (some (.cells (bs (l.map (gm c))) true)), Nat.add n (Nat.succ l.length))))) none) <|
  orc f args H n
theorem set_upd {H : T O} {n : Nat} {ob : O} (h : n < 1000000000) : (H.set n (some ob)).get = upd H.get n (some ob) := by
  funext j
  rw [T.get_set _ _ _ (by omega)]
  rfl
theorem orcR_ok : CallF.Ok Tryz.prog orcR := by
  intro f args H n v H' n' ht h
  unfold orcR at h
  rcases pickB_some h with ⟨rfl, h⟩ | h
  · obtain ⟨x, y, rfl, h⟩ := arg2_some h
    obtain ⟨N, h1, h⟩ := onO_some h
    obtain ⟨y, rfl, h⟩ := onF_some h
    obtain ⟨fs, h2, h⟩ := onO_some h
    obtain ⟨rs, h3, h⟩ := onO_some h
    obtain ⟨h4, h⟩ := pickZ_some h
    cases h
    obtain ⟨rfl, g1⟩ := asK_spec h1
    have h4 : 1000000000 - (n + rs.length) ≠ 0 := h4
    rw [set_upd (by omega)]
    have := sum_any (n := n) (N := N) rs ⟨fs, h2, asRows_spec h3⟩ g1 (by omega) ht
    rw [show n + 1 + rs.length * N = n + (rs.length * N + 1) by omega] at this
    exact this
  rcases pickB_some h with ⟨rfl, h⟩ | h
  · obtain ⟨x, y, rfl, h⟩ := arg2_some h
    obtain ⟨c, h1, h⟩ := onO_some h
    obtain ⟨y, rfl, h⟩ := onF_some h
    obtain ⟨l, h2, h⟩ := onO_some h
    obtain ⟨l', h3, h⟩ := onO_some h
    obtain ⟨h4, h⟩ := pickZ_some h
    obtain ⟨h5, h⟩ := pickZ_some h
    cases h
    obtain ⟨rfl, g1⟩ := asK_spec h1
    obtain ⟨rfl, hl⟩ := lim47_spec h3
    obtain ⟨cs, k1, k2⟩ := onO_some h2
    obtain ⟨rfl, k3⟩ := asBs_spec k2
    have h5 : 1000000000 - n ≠ 0 := h5
    rw [set_upd (by omega)]
    rcases row_sl k1 with ⟨rfl, rfl⟩ | ⟨id, off, len, cap, rfl⟩
    · exact absurd rfl h4
    · have := scale_any (n := n) (c := c) _ k1 k3 (by omega) hl ht
      rw [Nat.add_assoc, Nat.add_comm 1] at this
      exact this
  · exact orc_ok _ _ _ _ _ _ _ ht h
end Go.Proofs.YtkimkgbppegkhaaGreat.Cm
