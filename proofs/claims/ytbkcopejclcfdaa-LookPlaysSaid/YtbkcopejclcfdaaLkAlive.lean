/- A look in a law: what lies beside it; alive. -/
import Derived.Test.YtbkcopejclcfdaaLkNext
namespace Go.Proofs.Ytbkcopejclcfdaa
open Go.RowKit Go.Proofs.YtbkcopejclcfdaaW.PrintLast Go.Proofs.Ytbkcopejclcfdaa.Sum
set_option linter.unusedVariables false
set_option linter.unusedSimpArgs false
/-- a look in a law's world: nothing of it lies below -/
structure LW (t : TypeId) (B : Nat) (W wr : World) (p : Nat) (S : LS) (u1 u2 u3 : Value) : Prop where
  lo : LO t wr p S u1 u2 u3
  ge : ∀ b, foot p u1 u2 u3 b → B ≤ b
  bel : Below B W wr
theorem LW.step {t : TypeId} {B : Nat} {W wr w1 : World} {p : Nat} {S S' : LS} {u1 u2 u3 t1 t2 t3 : Value} (h : LW t B W wr p S u1 u2 u3) (hB : B ≤ wr.heap.size) (ho : LO t w1 p S' t1 t2 t3) (st : LStep wr p u1 u2 u3 w1 t1 t2 t3) : LW t B W w1 p S' t1 t2 t3 :=
  ⟨ho, fun b hb => by
    rcases st.grow b hb with h1 | h1
    · exact h.ge b h1
    · omega, h.bel.trans (st.T.below hB (fun k hk e => by have := h.ge k e; omega))⟩
theorem LW.below {t : TypeId} {B : Nat} {W wr w1 : World} {p : Nat} {S : LS} {u1 u2 u3 : Value} (h : LW t B W wr p S u1 u2 u3) (hB : B ≤ wr.heap.size) (hb : Below wr.heap.size wr w1) : LW t B W w1 p S u1 u2 u3 := ⟨h.lo.below hb, h.ge, h.bel.trans (hb.mono hB)⟩
theorem key0 : Key20 z20 := ⟨z20_len, z20_bytes⟩
theorem reads_new {w : World} {x : Int} : Reads (w.alloc (.cells #[.int .i64 x] 3)) (some ⟨w.heap.size, 0, none⟩) (ints [x]) := fun j u hj => by
  refine ⟨w.heap.size, 0, rfl, by simp, ?_⟩
  rw [Nat.zero_add, World.cell?_alloc_new]
  simpa [ints] using hj
set_option maxHeartbeats 2000000 in
set_option maxRecDepth 20000 in
theorem lalive_any (W : World) : Calls Try.prog 33 #[] W fun e W' => e = .returned (.bool true) ∧ Below W.heap.size W W' := by
  have HA : Calls Try.prog 34 #[.agg #[.int .u8 0, .int .u8 0, .int .u8 0, .int .u8 0, .int .u8 0, .int .u8 0, .int .u8 0, .int .u8 0, .int .u8 0, .int .u8 0, .int .u8 0, .int .u8 0, .int .u8 0, .int .u8 0, .int .u8 0, .int .u8 0, .int .u8 0, .int .u8 0, .int .u8 0, .int .u8 0], .int .i64 0, .slice none 0 0] W (NewPost 88 W ((⟨z20, 0, [], [], []⟩ : LS).know [])) := new88_any W z20 key0 0 none 0 0 [] (by decide) rfl (Reads.nil _ _)
  have HA := Lib.hid HA
  have HN := Lib.hid (fun w : World => (new88_any (w.alloc (.cells #[.int .i64 4] 3)) z20 key0 0 (some ⟨w.heap.size, 0, none⟩) 1 1 [4] (by decide) rfl reads_new : Calls Try.prog 34 #[.agg #[.int .u8 0, .int .u8 0, .int .u8 0, .int .u8 0, .int .u8 0, .int .u8 0, .int .u8 0, .int .u8 0, .int .u8 0, .int .u8 0, .int .u8 0, .int .u8 0, .int .u8 0, .int .u8 0, .int .u8 0, .int .u8 0, .int .u8 0, .int .u8 0, .int .u8 0, .int .u8 0], .int .i64 0, .slice (some ⟨w.heap.size, 0, none⟩) 1 1] _ _))
  go_enter Try.func33, Try.ntmps33
  go_wp2_with fail
  refine HA.out.mono ?_
  rintro e w1 ⟨p, u1, u2, u3, rfl, hp, hO, hge, hb⟩
  have HO := Lib.hid hO
  have HB := Lib.hid hb
  clear hO hb hge
  go_wp2_with fail
  refine (HN.out w1).mono ?_
  rintro e w2 ⟨q, t1, t2, t3, rfl, hq, hO2, hge2, hb2⟩
  have hge3 : ∀ b, foot q t1 t2 t3 b → W.heap.size ≤ b := fun b hb => by
    have h1 := hge2 b hb
    have h2 := HB.out.size
    rw [World.size_alloc] at h1
    omega
  have HGE := Lib.hid hge3
  have hb12 : Below w1.heap.size w1 w2 := ((Below.refl _ _).alloc (Nat.le_refl _) _).trans (hb2.mono (by simp))
  have hD := done_any w2 p _ _ _ _ (HO.out.below hb12) (by decide) (by decide)
  rw [show ((⟨z20, 0, [], [], []⟩ : LS).know []).done = true from rfl] at hD
  have HD := Lib.hid hD
  have HO2 := Lib.hid hO2
  have HB2 := Lib.hid (HB.out.trans (hb12.mono HB.out.size))
  clear hO2 hge2 hge3 hb2 hb12 hD
  go_wp2_with fail
  refine HD.out.mono ?_
  rintro e w3 ⟨rfl, hb3⟩
  have hN := next_any w3 q _ _ _ _ (HO2.out.below hb3) (by decide) (by decide) (by decide)
  rw [show ((⟨z20, 0, [], [], []⟩ : LS).know [4]).nextV = 4 from rfl, show ((⟨z20, 0, [], [], []⟩ : LS).know [4]).nextB = true from rfl] at hN
  have HNX := Lib.hid hN
  have HB3 := Lib.hid (HB2.out.trans (hb3.mono HB2.out.size))
  have HLW := Lib.hid (show LW 88 W.heap.size W w3 q ((⟨z20, 0, [], [], []⟩ : LS).know [4]) t1 t2 t3 from ⟨HO2.out.below hb3, fun b hb => by have := HGE.out b hb; omega, HB3.out⟩)
  clear hb3 hN
  go_wp2_with fail
  refine HNX.out.mono ?_
  rintro e w4 ⟨rfl, r1, r2, r3, hO4, hS4⟩
  have h4 := HLW.out.step HB3.out.size hO4 hS4
  have hD2 := done_any w4 q _ _ _ _ h4.lo (by decide) (by decide)
  rw [show ((⟨z20, 0, [], [], []⟩ : LS).know [4]).next.done = false from rfl] at hD2
  have HD2 := Lib.hid hD2
  have HB4 := Lib.hid h4.bel
  clear hO4 hS4 h4 hD2
  go_wp2_with fail
  refine HD2.out.mono ?_
  rintro e w5 ⟨rfl, hb5⟩
  have HB5 := Lib.hid (HB4.out.trans (hb5.mono HB4.out.size))
  clear hb5
  go_wp2
  go_ret
  exact ⟨rfl, HB5.out⟩
end Go.Proofs.Ytbkcopejclcfdaa
