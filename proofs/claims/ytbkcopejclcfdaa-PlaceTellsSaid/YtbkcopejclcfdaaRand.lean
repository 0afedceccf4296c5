/- Plain lemmas on the stirring of numbers and on degrees: no program here. -/
import Derived.Laws.BitsAllLaws
import Derived.OpenShut
namespace Go.Proofs.Ytbkcopejclcfdaa.Rand

def stirN (x : Nat) : Nat :=
  let a := x ^^^ x / 65536
  let b := a * 2146121005 % 4294967296
  let c := b ^^^ b / 32768
  let d := c * 2221713035 % 4294967296
  d ^^^ d / 65536

theorem xor_lt {a b : Nat} (ha : a < 4294967296) (hb : b < 4294967296) : a ^^^ b < 4294967296 := Nat.xor_lt_two_pow (n := 32) ha hb

theorem stirN_lt (x : Nat) (_h : x < 4294967296) : stirN x < 4294967296 := by
  unfold stirN
  exact xor_lt (Nat.mod_lt _ (by decide)) (Nat.lt_of_le_of_lt (Nat.div_le_self _ _) (Nat.mod_lt _ (by decide)))

/-- a number's stirring as the program's print spells it -/
def stirI (a0 : Int) : Int := (Go.bits .xor .u32 (((Go.bits .xor .u32 (((Go.bits .xor .u32 a0 (a0 / 65536)) * 2146121005) % 4294967296) ((((Go.bits .xor .u32 a0 (a0 / 65536)) * 2146121005) % 4294967296) / 32768)) * 2221713035) % 4294967296) ((((Go.bits .xor .u32 (((Go.bits .xor .u32 a0 (a0 / 65536)) * 2146121005) % 4294967296) ((((Go.bits .xor .u32 a0 (a0 / 65536)) * 2146121005) % 4294967296) / 32768)) * 2221713035) % 4294967296) / 65536))

theorem xs_nat (x s : Nat) (h : x < 4294967296) : Go.bits .xor .u32 (x : Int) ((x : Int) / (s : Int)) = ((x ^^^ x / s : Nat) : Int) := by
  rw [← Int.natCast_ediv]
  exact u32_xor_nat x (x / s) h (Nat.lt_of_le_of_lt (Nat.div_le_self _ _) h)

theorem mix_nat (x s c : Nat) (h : x < 4294967296) : (Go.bits .xor .u32 (x : Int) ((x : Int) / (s : Int))) * (c : Int) % 4294967296 = (((x ^^^ x / s) * c % 4294967296 : Nat) : Int) := by
  rw [xs_nat x s h]
  omega
theorem stirI_nat (x : Nat) (h : x < 4294967296) : stirI x = (stirN x : Int) := by
  have dl : ∀ n : Nat, n % 4294967296 < 4294967296 := fun n => Nat.mod_lt _ (by decide)
  have e1 := mix_nat x 65536 2146121005 h
  have e2 := mix_nat ((x ^^^ x / 65536) * 2146121005 % 4294967296) 32768 2221713035 (dl _)
  have e3 := xs_nat ((((x ^^^ x / 65536) * 2146121005 % 4294967296) ^^^ ((x ^^^ x / 65536) * 2146121005 % 4294967296) / 32768) * 2221713035 % 4294967296) 65536 (dl _)
  rw [← e2, ← e1] at e3
  exact e3

theorem stirI_of {a : Int} (h0 : 0 ≤ a) (h1 : a ≤ 4294967295) : stirI a = (stirN a.toNat : Int) ∧ a.toNat < 4294967296 ∧ 0 ≤ stirI a ∧ stirI a ≤ 4294967295 := by
  have e : ((a.toNat : Nat) : Int) = a := Int.toNat_of_nonneg h0
  have hl : a.toNat < 4294967296 := by omega
  have := stirI_nat a.toNat hl
  rw [e] at this
  have hs := stirN_lt _ hl
  exact ⟨this, hl, by omega, by omega⟩

theorem unshift (x s : Nat) (hx : x < 4294967296) (hs : 4294967296 ≤ 2 ^ s * 2 ^ s) : (x ^^^ x / 2 ^ s) ^^^ (x ^^^ x / 2 ^ s) / 2 ^ s = x := by
  have e : (x ^^^ x / 2 ^ s) / 2 ^ s = x / 2 ^ s := by
    rw [← Nat.shiftRight_eq_div_pow, ← Nat.shiftRight_eq_div_pow, Nat.shiftRight_xor_distrib, ← Nat.shiftRight_add, Nat.shiftRight_eq_div_pow x (s + s), Nat.pow_add, Nat.div_eq_of_lt (Nat.lt_of_lt_of_le hx hs), Nat.xor_zero]
  rw [e, Nat.xor_assoc, Nat.xor_self, Nat.xor_zero]

theorem xs_inj (s : Nat) (hs : 4294967296 ≤ 2 ^ s * 2 ^ s) {x y : Nat} (hx : x < 4294967296) (hy : y < 4294967296) (h : x ^^^ x / 2 ^ s = y ^^^ y / 2 ^ s) : x = y := by
  rw [← unshift x s hx hs, ← unshift y s hy hs, h]

theorem unshift15 (x : Nat) (hx : x < 4294967296) : ((x ^^^ x / 32768) ^^^ (x ^^^ x / 32768) / 32768) ^^^ (x ^^^ x / 32768) / 1073741824 = x := by
  have e1 : (x ^^^ x / 32768) / 32768 = x / 32768 ^^^ x / 1073741824 := by
    have := Nat.shiftRight_eq_div_pow (x ^^^ x / 2 ^ 15) 15
    rw [Nat.shiftRight_xor_distrib, Nat.shiftRight_eq_div_pow, Nat.shiftRight_eq_div_pow, Nat.div_div_eq_div_mul] at this
    exact this.symm
  have e2 : (x ^^^ x / 32768) / 1073741824 = x / 1073741824 := by
    have := Nat.shiftRight_eq_div_pow (x ^^^ x / 2 ^ 15) 30
    rw [Nat.shiftRight_xor_distrib, Nat.shiftRight_eq_div_pow, Nat.shiftRight_eq_div_pow, Nat.div_div_eq_div_mul, Nat.div_eq_of_lt (b := 2 ^ 15 * 2 ^ 30) (by omega), Nat.xor_zero] at this
    exact this.symm
  rw [e1, e2]
  generalize x / 32768 = p
  generalize x / 1073741824 = q
  rw [Nat.xor_assoc x p, ← Nat.xor_assoc p p q, Nat.xor_self, Nat.zero_xor, Nat.xor_assoc, Nat.xor_self, Nat.xor_zero]

theorem xs15_inj {x y : Nat} (hx : x < 4294967296) (hy : y < 4294967296) (h : x ^^^ x / 32768 = y ^^^ y / 32768) : x = y := by
  rw [← unshift15 x hx, ← unshift15 y hy, h]

theorem mul_inj (c c' : Nat) (hc : c * c' % 4294967296 = 1) {x y : Nat} (hx : x < 4294967296) (hy : y < 4294967296) (h : x * c % 4294967296 = y * c % 4294967296) : x = y := by
  have back : ∀ z, z < 4294967296 → (z * c % 4294967296) * c' % 4294967296 = z := fun z hz => by
    rw [Nat.mod_mul_mod, Nat.mul_assoc, Nat.mul_mod, hc, Nat.mul_one, Nat.mod_mod, Nat.mod_eq_of_lt hz]
  rw [← back x hx, ← back y hy, h]

theorem stirN_inj {x y : Nat} (hx : x < 4294967296) (hy : y < 4294967296) (h : stirN x = stirN y) : x = y := by
  unfold stirN at h
  have dl : ∀ n : Nat, n % 4294967296 < 4294967296 := fun n => Nat.mod_lt _ (by decide)
  have h1 := xs_inj 16 (by decide) (dl _) (dl _) h
  have xl : ∀ z s : Nat, z < 4294967296 → z ^^^ z / s < 4294967296 := fun z s hz => xor_lt hz (Nat.lt_of_le_of_lt (Nat.div_le_self _ _) hz)
  have h2 := mul_inj 2221713035 1124208931 (by decide) (xl _ _ (dl _)) (xl _ _ (dl _)) h1
  have h3 := xs15_inj (dl _) (dl _) h2
  have h4 := mul_inj 2146121005 493478565 (by decide) (xl _ _ hx) (xl _ _ hy) h3
  exact xs_inj 16 (by decide) hx hy h4

/-- how many of a list's numbers a number reaches -/
def cnt (v : Int) (l : List Int) : Int := ((l.filter fun s => decide (s ≤ v)).length : Int)
theorem cnt_cons (v s : Int) (l : List Int) : cnt v (s :: l) = cnt v l + if s ≤ v then 1 else 0 := by
  unfold cnt
  by_cases h : s ≤ v <;> simp [h]
theorem cnt_bd (v : Int) (l : List Int) : 0 ≤ cnt v l ∧ cnt v l ≤ l.length := by
  unfold cnt
  have := List.length_filter_le (fun s => decide (s ≤ v)) l
  omega
def stepsL : List Int := [5243, 529531, 704294, 791675, 844104, 879057, 904023]
/-- the degree of a number -/
def degI (v : Int) : Int := 1 + cnt (max 0 (min v 1048575)) stepsL
theorem degI_eq (v : Int) : degI v = 1 + cnt (max 0 (min v 1048575)) stepsL := rfl
theorem degI_bd (v : Int) : 1 ≤ degI v ∧ degI v ≤ 8 := by
  have := cnt_bd (max 0 (min v 1048575)) stepsL
  unfold degI
  simp only [stepsL, List.length_cons, List.length_nil] at this ⊢
  omega

attribute [irreducible] stirI stirN cnt degI
end Go.Proofs.Ytbkcopejclcfdaa.Rand
