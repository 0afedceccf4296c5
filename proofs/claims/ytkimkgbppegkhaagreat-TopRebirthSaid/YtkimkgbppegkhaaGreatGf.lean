/- The 256 elements: sums, products and inverses, with the laws that solving needs. -/
import Derived.KernelRfl
namespace Go.Proofs.YtkimkgbppegkhaaGreat
namespace Gf

def xt (a : Nat) : Nat := if 128 ≤ a then (2 * a) % 256 ^^^ 29 else (2 * a) % 256
def gmN : Nat → Nat → Nat → Nat
  | 0, _, _ => 0
  | n + 1, a, b => (if b % 2 = 1 then a else 0) ^^^ gmN n (xt a) (b / 2)
def gm (a b : Nat) : Nat := gmN 8 a b
def pwN : Nat → Nat → Nat → Nat → Nat
  | 0, _, _, out => out
  | f + 1, a, n, out => if n = 0 then out else pwN f (gm a a) (n / 2) (if n % 2 = 1 then gm out a else out)
def iv (a : Nat) : Nat := pwN 8 a 254 1

def all2 (p : Nat → Nat → Bool) : Bool := (List.range 256).all fun a => (List.range 256).all fun b => p a b
theorem all2_of {p : Nat → Nat → Bool} (h : all2 p = true) {a b : Nat} (ha : a < 256) (hb : b < 256) : p a b = true := by
  unfold all2 at h
  rw [List.all_eq_true] at h
  have h1 := h a (List.mem_range.mpr ha)
  rw [List.all_eq_true] at h1
  exact h1 b (List.mem_range.mpr hb)

theorem xt_all : all2 (fun a b => Nat.beq (xt (a ^^^ b)) (xt a ^^^ xt b)) = true := by kernel_rfl
theorem comm_all : all2 (fun a b => Nat.beq (gm a b) (gm b a)) = true := by kernel_rfl
theorem iv_all : (List.range 256).all (fun a => Nat.beq a 0 || (Nat.beq (gm a (iv a)) 1 && Nat.blt (iv a) 256)) = true := by kernel_rfl

theorem xor_lt {a b : Nat} (ha : a < 256) (hb : b < 256) : a ^^^ b < 256 := Nat.xor_lt_two_pow (n := 8) ha hb
theorem xt_lt (a : Nat) : xt a < 256 := by
  unfold xt; split
  · exact xor_lt (Nat.mod_lt _ (by decide)) (by decide)
  · exact Nat.mod_lt _ (by decide)
theorem xt_add {a b : Nat} (ha : a < 256) (hb : b < 256) : xt (a ^^^ b) = xt a ^^^ xt b := Nat.eq_of_beq_eq_true (all2_of xt_all ha hb)
theorem gm_comm {a b : Nat} (ha : a < 256) (hb : b < 256) : gm a b = gm b a := Nat.eq_of_beq_eq_true (all2_of comm_all ha hb)
theorem gmN_lt : ∀ (n a b : Nat), a < 256 → gmN n a b < 256
  | 0, _, _, _ => by simp [gmN]
  | n + 1, a, b, ha => by
    unfold gmN
    refine xor_lt ?_ (gmN_lt n _ _ (xt_lt a))
    split
    · exact ha
    · decide
theorem gm_lt {a b : Nat} (ha : a < 256) : gm a b < 256 := gmN_lt 8 a b ha
theorem xt_zero : xt 0 = 0 := by decide
theorem x4 (a b c d : Nat) : (a ^^^ b) ^^^ (c ^^^ d) = (a ^^^ c) ^^^ (b ^^^ d) := by
  rw [Nat.xor_assoc, ← Nat.xor_assoc b c d, Nat.xor_comm b c, Nat.xor_assoc c b d, ← Nat.xor_assoc a c]
theorem gmN_addl : ∀ (n a a' b : Nat), a < 256 → a' < 256 → gmN n (a ^^^ a') b = gmN n a b ^^^ gmN n a' b
  | 0, _, _, _, _, _ => by simp [gmN]
  | n + 1, a, a', b, ha, hb => by
    unfold gmN
    rw [xt_add ha hb, gmN_addl n _ _ _ (xt_lt a) (xt_lt a'), x4]
    split <;> simp
theorem gmN_addr : ∀ (n a b b' : Nat), gmN n a (b ^^^ b') = gmN n a b ^^^ gmN n a b'
  | 0, _, _, _ => by simp [gmN]
  | n + 1, a, b, b' => by
    unfold gmN
    rw [Nat.xor_div_two, gmN_addr n, x4]
    congr 1
    have h := @Nat.xor_mod_two_eq_one b b'
    by_cases h1 : b % 2 = 1 <;> by_cases h2 : b' % 2 = 1
    · rw [if_neg (by rw [h]; simp [h1, h2]), if_pos h1, if_pos h2, Nat.xor_self]
    · rw [if_pos (by rw [h]; simp [h1, h2]), if_pos h1, if_neg h2, Nat.xor_zero]
    · rw [if_pos (by rw [h]; simp [h1, h2]), if_neg h1, if_pos h2, Nat.zero_xor]
    · rw [if_neg (by rw [h]; simp [h1, h2]), if_neg h1, if_neg h2, Nat.xor_zero]
theorem gmN_xt : ∀ (n a b : Nat), a < 256 → gmN n (xt a) b = xt (gmN n a b)
  | 0, _, _, _ => by simp [gmN, xt_zero]
  | n + 1, a, b, ha => by
    unfold gmN
    rw [gmN_xt n _ _ (xt_lt a), xt_add (by split; exact ha; decide) (gmN_lt n _ _ (xt_lt a))]
    split <;> simp [xt_zero]
theorem gm_xtr {a b : Nat} (ha : a < 256) (hb : b < 256) : gm a (xt b) = xt (gm a b) := by
  rw [gm_comm ha (xt_lt b), gm_comm ha hb]; exact gmN_xt 8 b a hb
theorem gm_zero (a : Nat) : gm a 0 = 0 := by
  unfold gm
  have : ∀ n a, gmN n a 0 = 0 := by
    intro n; induction n with
    | zero => intro a; rfl
    | succ n ih => intro a; unfold gmN; rw [show (0 : Nat) / 2 = 0 from rfl, ih]; simp
  exact this 8 a
theorem gm_gmN : ∀ (n a b c : Nat), a < 256 → b < 256 → gm a (gmN n b c) = gmN n (gm a b) c
  | 0, _, _, _, _, _ => by simp [gmN, gm_zero]
  | n + 1, a, b, c, ha, hb => by
    unfold gmN
    rw [show gm a ((if c % 2 = 1 then b else 0) ^^^ gmN n (xt b) (c / 2)) = gm a (if c % 2 = 1 then b else 0) ^^^ gm a (gmN n (xt b) (c / 2)) from gmN_addr 8 _ _ _, gm_gmN n a (xt b) _ ha (xt_lt b), gm_xtr ha hb]
    split <;> simp [gm_zero]
theorem gm_assoc {a b : Nat} (ha : a < 256) (hb : b < 256) (c : Nat) : gm a (gm b c) = gm (gm a b) c := gm_gmN 8 a b c ha hb
theorem iv_ok {a : Nat} (ha : a < 256) (h0 : a ≠ 0) : gm a (iv a) = 1 ∧ iv a < 256 := by
  have h := iv_all
  rw [List.all_eq_true] at h
  have h1 := h a (List.mem_range.mpr ha)
  rw [Bool.or_eq_true, Bool.and_eq_true] at h1
  rcases h1 with h1 | ⟨h1, h2⟩
  · exact absurd (Nat.eq_of_beq_eq_true h1) h0
  · exact ⟨Nat.eq_of_beq_eq_true h1, Nat.le_of_ble_eq_true h2⟩
theorem iv_lt_all : (List.range 256).all (fun a => Nat.blt (iv a) 256) = true := by kernel_rfl
theorem iv_lt {a : Nat} (ha : a < 256) : iv a < 256 := by
  have h := iv_lt_all
  rw [List.all_eq_true] at h
  exact Nat.le_of_ble_eq_true (h a (List.mem_range.mpr ha))

/- the type -/
abbrev G := Fin 256
def add (a b : G) : G := ⟨a.val ^^^ b.val, xor_lt a.isLt b.isLt⟩
def mul (a b : G) : G := ⟨gm a.val b.val, gm_lt a.isLt⟩
def inv (a : G) : G := ⟨iv a.val, iv_lt a.isLt⟩
def O : G := ⟨0, by decide⟩
def I : G := ⟨1, by decide⟩
theorem add_comm (a b : G) : add a b = add b a := Fin.ext (Nat.xor_comm _ _)
theorem add_assoc (a b c : G) : add (add a b) c = add a (add b c) := Fin.ext (Nat.xor_assoc _ _ _)
theorem add_O (a : G) : add a O = a := Fin.ext (Nat.xor_zero _)
theorem O_add (a : G) : add O a = a := Fin.ext (Nat.zero_xor _)
theorem add_self (a : G) : add a a = O := Fin.ext (Nat.xor_self _)
theorem mul_comm (a b : G) : mul a b = mul b a := Fin.ext (gm_comm a.isLt b.isLt)
theorem mul_assoc (a b c : G) : mul (mul a b) c = mul a (mul b c) := Fin.ext (gm_assoc a.isLt b.isLt _).symm
theorem mul_add (a b c : G) : mul a (add b c) = add (mul a b) (mul a c) := Fin.ext (gmN_addr 8 _ _ _)
theorem add_mul (a b c : G) : mul (add a b) c = add (mul a c) (mul b c) := Fin.ext (gmN_addl 8 _ _ _ a.isLt b.isLt)
theorem mul_O (a : G) : mul a O = O := Fin.ext (gm_zero _)
theorem O_mul (a : G) : mul O a = O := by rw [mul_comm, mul_O]
theorem I_mul_all : (List.range 256).all (fun a => Nat.beq (gm 1 a) a) = true := by kernel_rfl
theorem I_mul (a : G) : mul I a = a := by
  have h := I_mul_all
  rw [List.all_eq_true] at h
  exact Fin.ext (Nat.eq_of_beq_eq_true (h a.val (List.mem_range.mpr a.isLt)))
theorem mul_inv (a : G) (h : a ≠ O) : mul a (inv a) = I := Fin.ext (iv_ok a.isLt (fun h0 => h (Fin.ext h0))).1
theorem inv_ne (a : G) (h : a ≠ O) : inv a ≠ O := by
  intro h0
  have := mul_inv a h
  rw [h0, mul_O] at this
  exact absurd (congrArg Fin.val this) (by decide)
theorem add_eq_O {a b : G} : add a b = O ↔ a = b := by
  constructor
  · intro h
    have : add (add a b) b = add O b := by rw [h]
    rwa [add_assoc, add_self, add_O, O_add] at this
  · rintro rfl; exact add_self a
theorem mul_eq_O {a b : G} (ha : a ≠ O) : mul a b = O ↔ b = O := by
  constructor
  · intro h
    have : mul (inv a) (mul a b) = mul (inv a) O := by rw [h]
    rwa [mul_O, ← mul_assoc, mul_comm (inv a) a, mul_inv a ha, I_mul] at this
  · rintro rfl; exact mul_O a
end Gf
end Go.Proofs.YtkimkgbppegkhaaGreat
