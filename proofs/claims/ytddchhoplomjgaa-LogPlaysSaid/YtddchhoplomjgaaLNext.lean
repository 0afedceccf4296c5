/- slices.Clone at bytes; log's next. -/
import Derived.Test.YtddchhoplomjgaaSrc
import Derived.Test.YtddchhoplomjgaaWLast
import Derived.Outline
import Derived.IntWalk
import Derived.Deep.QuietTactic
import Derived.BigQuiet
import Derived.WalkSpells
import Derived.WalkSmall
namespace Go.Proofs.Ytddchhoplomjgaa
open Go.RowKit Go.Proofs.YtddchhoplomjgaaW.PrintLast
set_option linter.unusedVariables false
set_option linter.unusedSimpArgs false
theorem info5 : (Try.prog.info? 5).map (fun i => (i.zero, i.size, i.bytes)) = some (some (.int .u8 0), 1, 1) := by kernel_rfl
theorem info38 : (Try.prog.info? 38).map (fun i => (i.zero, i.size, i.bytes)) = some (some (.slice none 0 0), 1, 24) := by kernel_rfl
theorem below_of {F : Nat → Prop} {W W1 w' : World} (T0 : Turns (fun _ => False) W W1) (T1 : Turns F W1 w') (hF : ∀ k, k < W.heap.size → ¬ F k) : Below W.heap.size W w' :=
  ⟨T1.os.trans T0.os, T1.tape.trans T0.tape, T1.output.trans T0.output, Nat.le_trans T0.size T1.size, fun k hk => (T1.block k (Nat.lt_of_lt_of_le hk T0.size) (hF k hk)).trans (T0.block k hk (fun h => h))⟩
theorem Reads.none_ {W : World} {xs : List Value} (h : Reads W none xs) : xs = [] := by
  cases xs with
  | nil => rfl
  | cons x l =>
    obtain ⟨b, off, h2, _⟩ := h 0 x rfl
    cases h2
/-- a copy of a row -/
def Cloned (W : World) (e size n : Nat) (xs : List Value) (r : Ending) (W' : World) : Prop :=
  ∃ ad cap, r = .returned (.slice ad n cap) ∧ W'.ownsRow W.heap.size e size (.slice ad n cap) n xs ∧ Below W.heap.size W W'
theorem clone46_nil (W : World) : Calls Try.prog 46 #[.slice none 0 0] W fun e W' => e = .returned (.slice none 0 0) ∧ W = W' := by
  have hq := fun w : World => Lib.run_eql_slice_nil (P := Try.prog) w 38 5 none 0 0 0 0 Try.underlying38
  go_enter Try.func46, Try.ntmps46
  go_wp2
  go_ret
  exact ⟨rfl, rfl⟩
set_option maxHeartbeats 400000 in
theorem clone46_some (W : World) (a : Addr) (n cap : Nat) (xs : List Value) (hl : xs.length = n * 1) (hn : n ≤ 1000000000) (hx : Reads W (some a) xs) (h1 : ∀ u ∈ xs, u.oneCell' = true) :
    Calls Try.prog 46 #[.slice (some a) n cap] W (Cloned W 5 1 n xs) := by
  have hq := fun w : World => Lib.run_eql_slice_nil (P := Try.prog) w 38 5 (some a) n cap 0 0 Try.underlying38
  obtain ⟨i0, hi, hz0, hz1, hz2⟩ := info_parts info5
  have ow := World.ownsRow_made (base := W.heap.size) (e := 5) (size := 1) W #[] 0 (Nat.le_refl _) (by decide) rfl
  have hx' : Reads (W.alloc (.cells #[] 5)) (some a) xs := hx.below ((Below.refl _ _).alloc (Nat.le_refl _) _)
  have T0 := (Turns.refl (fun _ => False) W).alloc (.cells #[] 5)
  go_enter Try.func46, Try.ntmps46
  go_wp2_with (at_builtin; refine wpList_row_append_any _ rfl (.tmp 5) (.tmp 6) 38 rfl W.heap.size (by simp) 5 i0 _ 1 1 Try.underlying38 hi hz0 hz1 hz2 rfl (by decide) (.slice (some ⟨W.heap.size, 0, none⟩) 0 0) 0 [] rfl ow (some a) n cap xs rfl hl hx' h1 (by omega) (by decide) (fun v' w' ow' hg' hf' => ?_))
  simp only [Nat.zero_add, List.nil_append] at ow'
  obtain ⟨ad', cap', rfl⟩ := slice_of_own ow'
  have hb : Below W.heap.size W w' := below_of T0 hg' (fun k hk h => by simp [Value.ownBlock] at h; omega)
  have HO := Lib.hid ow'
  clear ow' hg' hf' hq hi hz0 hz1 hz2 ow hx' hx T0
  go_wp2
  go_ret
  exact ⟨_, _, rfl, HO.out, hb⟩
theorem clone46_any (W : World) (A : Option Addr) (n cap : Nat) (xs : List Value) (hl : xs.length = n * 1) (hn : n ≤ 1000000000) (hx : Reads W A xs) (hA : A = none → cap = 0) (h1 : ∀ u ∈ xs, u.oneCell' = true) :
    Calls Try.prog 46 #[.slice A n cap] W (Cloned W 5 1 n xs) := by
  cases A with
  | none =>
    obtain rfl := hx.none_
    obtain rfl : n = 0 := by simp at hl; omega
    obtain rfl := hA rfl
    exact (clone46_nil W).mono fun e W' ⟨he, hw⟩ => ⟨none, 0, he, World.ownsRow_nil _ _ _ _, hw ▸ Below.refl _ _⟩
  | some a => exact clone46_some W a n cap xs hl hn hx h1

/-- bytes as cells -/
def bv (xs : List Int) : List Value := xs.map (Value.int .u8)
theorem bv_length (xs : List Int) : (bv xs).length = xs.length := by simp [bv]
theorem bv_one (xs : List Int) : ∀ u ∈ bv xs, u.oneCell' = true := by
  intro u hu
  obtain ⟨x, _, rfl⟩ := List.mem_map.1 hu
  rfl
theorem bv_append (xs ys : List Int) : bv (xs ++ ys) = bv xs ++ bv ys := by simp [bv]
theorem bv_get (xs : List Int) (j : Nat) (h : j < xs.length) : (bv xs)[j]? = some (.int .u8 xs[j]) := by simp [bv, h]
def Byte (x : Int) : Prop := 0 ≤ x ∧ x ≤ 255
def Bytes (xs : List Int) : Prop := ∀ x ∈ xs, Byte x
/-- the first piece -/
def nextP : List Int → Option (List Int × Nat)
  | a :: c :: r => if (a * 256 + c).toNat ≤ r.length then some (r.take (a * 256 + c).toNat, (a * 256 + c).toNat + 2) else none
  | _ => none
theorem nextP_cons (a c : Int) (r : List Int) : nextP (a :: c :: r) = if (a * 256 + c).toNat ≤ r.length then some (r.take (a * 256 + c).toNat, (a * 256 + c).toNat + 2) else none := rfl
def NextPost (W : World) (r : Option (List Int × Nat)) (e : Ending) (W' : World) : Prop :=
  Below W.heap.size W W' ∧ match r with
  | none => e = .returned (.tuple #[.slice none 0 0, .int .i64 0, .bool false])
  | some (ys, k) => ∃ ad cap, e = .returned (.tuple #[.slice ad ys.length cap, .int .i64 k, .bool true]) ∧ W'.ownsRow W.heap.size 5 1 (.slice ad ys.length cap) ys.length (bv ys)
theorem next_short (W : World) (A : Option Addr) (cap : Nat) (xs : List Int) (h : xs.length < 2) :
    Calls Try.prog 39 #[.slice A xs.length cap] W (NextPost W none) := by
  go_enter Try.func39, Try.ntmps39
  go_wp2
  go_ret3
  exact ⟨Below.refl _ _, rfl⟩
set_option maxHeartbeats 1000000 in
theorem next_long (W : World) (b off cap : Nat) (x y : Int) (r : List Int) (hr : Reads W (some ⟨b, off, none⟩) (bv (x :: y :: r))) (hx : Byte x) (hy : Byte y) (n : Nat) (hn : n = r.length + 2) (hc : n ≤ cap) (hm : n ≤ 1000000000) :
    Calls Try.prog 39 #[.slice (some ⟨b, off, none⟩) n cap] W (NextPost W (nextP (x :: y :: r))) := by
  have c0 := hr 0 (.int .u8 x) rfl
  have c1 := hr 1 (.int .u8 y) rfl
  obtain ⟨_, _, e0, _, c0⟩ := c0
  obtain ⟨_, _, e1, _, c1⟩ := c1
  injection e0 with e0
  injection e0 with e2 e3
  subst e2 e3
  injection e1 with e1
  injection e1 with e2 e3
  subst e2 e3
  rw [Nat.add_zero] at c0
  obtain ⟨hx0, hx1⟩ := hx
  obtain ⟨hy0, hy1⟩ := hy
  have HR := Lib.hid hr
  have i0 : (0 : Int) < (n : Int) := by omega
  have i1 : (1 : Int) < (n : Int) := by omega
  have d8 : decide ((n : Int) < 2) = false := by simp; omega
  have j0 : 0 < n := by omega
  have j1 : 1 < n := by omega
  have HN := Lib.hid hn
  have hk0 : 0 ≤ x * 256 + y := by omega
  clear hr hn
  by_cases hbig : (n : Int) < 2 + x * 256 + y
  · have hd := decide_eq_true hbig
    have hp : nextP (x :: y :: r) = none := by rw [nextP_cons, if_neg (by have := HN.out; omega)]
    rw [hp]
    go_enter Try.func39, Try.ntmps39
    go_wp2
    go_quiet (fail)
    go_wp2
    go_ret3
    exact ⟨below_drewN (Below.refl _ _) _, rfl⟩
  · have hd := decide_eq_false hbig
    have hp : nextP (x :: y :: r) = some (r.take (x * 256 + y).toNat, (x * 256 + y).toNat + 2) := by rw [nextP_cons, if_pos (by have := HN.out; omega)]
    rw [hp]
    have hlen : (r.take (x * 256 + y).toNat).length = (2 + x * 256 + y).toNat - 2 := by rw [List.length_take]; have := HN.out; omega
    have hrd : Reads W (some ⟨b, off + 2, none⟩) (bv (r.take (x * 256 + y).toNat)) := fun j u hj => by
      have hj2 : (bv (x :: y :: r))[j + 2]? = some u := by
        have : j < (x * 256 + y).toNat := by
          have := (List.getElem?_eq_some_iff.1 hj).1
          rw [bv_length, List.length_take] at this
          omega
        simp only [bv, List.map_take, List.getElem?_take, if_pos this] at hj
        simpa [bv] using hj
      obtain ⟨b', off', h1, h2, h3⟩ := HR.out (j + 2) u hj2
      injection h1 with h1
      injection h1 with h4 h5
      subst h4 h5
      exact ⟨b, off + 2, rfl, h2, by rw [Nat.add_assoc, Nat.add_comm 2 j]; exact h3⟩
    by_cases hcap : cap = 2
    · subst hcap
      have hn2 : n = 2 := by omega
      subst hn2
      have hxz : x = 0 := by omega
      have hyz : y = 0 := by omega
      subst hxz hyz
      have hr0 : r = [] := List.eq_nil_of_length_eq_zero (by have := HN.out; omega)
      subst hr0
      have HC := Lib.hid (fun w : World => fun (h : Reads w (some ⟨b, off, none⟩) (bv [])) => clone46_some w ⟨b, off, none⟩ 0 0 (bv []) rfl (by omega) h (bv_one _))
      clear hrd hlen hp HR HN
      go_enter Try.func39, Try.ntmps39
      go_wp2
      go_quiet (fail)
      go_wp2_with fail
      refine (HC.out _ (Reads.nil _ _)).mono ?_
      rintro e w1 ⟨ad, cap', rfl, ow, hb⟩
      have hb' := (below_drewN (Below.refl W.heap.size W) nq).trans hb
      have HO := Lib.hid ow
      clear ow hb
      go_wp2
      go_ret3
      exact ⟨hb', ad, cap', rfl, HO.out⟩
    · have C := fun w : World => fun (h : Reads w (some ⟨b, off + 2, none⟩) (bv (r.take (x * 256 + y).toNat))) => clone46_some w ⟨b, off + 2, none⟩ ((2 + x * 256 + y).toNat - 2) (cap - 2) (bv (r.take (x * 256 + y).toNat)) (by rw [bv_length, hlen, Nat.mul_one]) (by omega) h (bv_one _)
      have HC := Lib.hid C
      have HL := Lib.hid hlen
      have HP := Lib.hid hrd
      have c2 : 2 < cap := by omega
      clear C hlen hrd hcap hp
      go_enter Try.func39, Try.ntmps39
      go_wp2
      go_quiet (fail)
      go_wp2_with fail
      refine (HC.out _ (HP.out.below (below_drewN (Below.refl _ _) _))).mono ?_
      rintro e w1 ⟨ad, cap', rfl, ow, hb⟩
      rw [← HL.out] at ow
      have hb' := (below_drewN (Below.refl W.heap.size W) nq).trans hb
      have HO := Lib.hid ow
      clear ow hb
      go_wp2
      go_ret3
      refine ⟨hb', ad, cap', ?_, HO.out⟩
      rw [HL.out]
      have e1 : (((x * 256 + y).toNat + 2 : Nat) : Int) = 2 + x * 256 + y := by omega
      rw [e1]
      rfl
theorem next_any (W : World) (A : Option Addr) (cap : Nat) (xs : List Int) (hr : Reads W A (bv xs)) (hb : Bytes xs) (hc : xs.length ≤ cap) (hm : xs.length ≤ 1000000000) :
    Calls Try.prog 39 #[.slice A xs.length cap] W (NextPost W (nextP xs)) := by
  match xs, hr, hb, hc, hm with
  | [], _, _, _, _ => exact next_short W A cap [] (by decide)
  | [x], _, _, _, _ => exact next_short W A cap [x] (by simp)
  | x :: y :: r, hr, hb, hc, hm =>
    obtain ⟨b, off, h1, _, _⟩ := hr 0 (.int .u8 x) rfl
    subst h1
    exact next_long W b off cap x y r hr (hb x (by simp)) (hb y (by simp)) _ (by simp) hc hm
end Go.Proofs.Ytddchhoplomjgaa
