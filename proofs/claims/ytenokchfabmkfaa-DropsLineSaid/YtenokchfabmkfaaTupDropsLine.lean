/- Plain laws of Degree, Rand and Parts (chapters 4 and 6) over the functions printed for DropsLine: no program is walked here. -/
import Derived.Test.YtenokchfabmkfaaPDropsLinex7
import Derived.Test.YtenokchfabmkfaaRand
import Derived.Test.YtenokchfabmkfaaSum
import Derived.Laws.Bits64
namespace Go.Proofs.Ytenokchfabmkfaa.TupDropsLine
open Go.RowKit Go.Proofs.Ytenokchfabmkfaa.PDropsLine Go.Proofs.YtenokchfabmkfaaW.PrintWords Go.Proofs.YtenokchfabmkfaaW.PrintLast Go.Proofs.Ytenokchfabmkfaa.Rand Go.Proofs.Ytenokchfabmkfaa.Sum

theorem wrap_step {i : Int} (h0 : 0 ≤ i) (h : i < 1000) : wrap64 (i + 1) = i + 1 := by
  unfold wrap64
  omega
theorem rd_cons (pre : List Int) (s : Int) (rest : List Int) : rd (pre ++ s :: rest) (pre.length : Int) = s := by
  simp [rd]
theorem degl (v : Int) (rest : List Int) : ∀ (k : Nat) (pre : List Int) (n : Int), rest.length < k → 0 ≤ n → pre.length + rest.length < 400 → rest.length + n < 800 →
    random_Degree.l0 k v n (pre ++ rest) ((pre ++ rest).length : Int) (pre.length : Int) = some (n + cnt v rest) := by
  induction rest with
  | nil =>
    intro k pre n hk h0 h2 h3
    obtain ⟨k, rfl⟩ : ∃ m, k = m + 1 := ⟨k - 1, by simp at hk; omega⟩
    simp [random_Degree.l0, cnt]
  | cons s rest ih =>
    intro k pre n hk h0 h2 h3
    simp only [List.length_cons] at hk h2 h3
    obtain ⟨k, rfl⟩ : ∃ m, k = m + 1 := ⟨k - 1, by omega⟩
    simp only [random_Degree.l0]
    rw [rd_cons, cnt_cons, if_pos (by simp; omega), if_pos (by omega), if_pos (by simp; omega)]
    rw [wrap_step h0 (by omega), wrap_step (i := (pre.length : Int)) (by omega) (by omega)]
    have hp : (pre ++ s :: rest) = (pre ++ [s]) ++ rest := by simp
    have hl : ((pre.length : Int) + 1) = ((pre ++ [s]).length : Int) := by simp
    by_cases h : s ≤ v
    · rw [if_pos h, if_pos h]
      rw [hp, hl]
      rw [ih k (pre ++ [s]) (n + 1) (by omega) (by omega) (by simp; omega) (by omega)]
      exact congrArg some (by omega)
    · rw [if_neg h, if_neg h]
      rw [hp, hl, ih k (pre ++ [s]) n (by omega) (by omega) (by simp; omega) (by omega)]
      congr 1
      omega
theorem mm (v : Int) : mx 0 (mn v 1048575) = max 0 (min v 1048575) := by
  unfold mx mn
  omega
theorem deg_is (v : Int) (k : Nat) (hk : 7 < k) : random_Degree.f k v = some (degI v) := by
  unfold random_Degree.f random_steps.f
  simp only [Option.bind_some]
  have := degl (max 0 (min v 1048575)) stepsL k [] 1 hk (by decide) (by decide) (by decide)
  rw [mm, degI_eq]
  exact this
theorem stir_is (x : Int) : random_Stir.f x = some (stirI x) := by
  unfold stirI
  rfl
theorem rand_z (y i : Int) (hy : 0 ≤ y ∧ y ≤ 4294967295) : ∃ z : Int, 0 ≤ z ∧ z ≤ 4294967295 ∧ ∀ m : Int, 1 ≤ m → random_Rand.f y i m = some (z % m) := by
  have s1 := stirI_of hy.1 hy.2
  obtain ⟨_, _, s3, s4⟩ := stirI_of (a := (stirI y + ((i * 2654435769) % 4294967296)) % 4294967296) (by omega) (by omega)
  refine ⟨_, s3, s4, fun m hm => ?_⟩
  unfold random_Rand.f
  rw [if_neg (by omega)]
  simp only [stir_is, Option.bind_some]
  generalize stirI ((stirI y + ((i * 2654435769) % 4294967296)) % 4294967296) = z at *
  have e3 : wrap64 z = z := by unfold wrap64; omega
  rw [if_neg (by omega), e3, Int.tmod_eq_emod_of_nonneg s3]
theorem rand_no (y i m : Int) (hm : m < 1) : random_Rand.f y i m = some 0 := by
  unfold random_Rand.f
  rw [if_pos hm]

theorem rdOf_nat (l : List Bool) (p : Nat) : rdOf false l (p : Int) = l.getD p false := by
  simp [rdOf]

/-- the way from a place to a free one -/
theorem l1_ev (w : Nat) (hw : 0 < w) (hw2 : w ≤ 1000) (met : List Bool) (hm : met.length = w) (q : Nat) (hq : q < w) (hf : met.getD q false = false) (W y a b d i s0 s1 s2 : Int) (hW : W = w) (out : List Int) (ho : out.length < 1000) :
    ∀ (δ p : Nat), p < w → (q + w - p) % w = δ → ∃ p', p' < w ∧ met.getD p' false = false ∧ ∀ r, Ev (fun k => tuple_Parts.l0 k W y a b (met.set p' true) (out ++ [(p' : Int)]) d (wrap64 (i + 1)) s0 s1 s2) r → Ev (fun k => tuple_Parts.l1 k W y a b met out (p : Int) d i s0 s1 s2) r := by
  subst hW
  intro δ
  induction δ with
  | zero =>
    intro p hp hd
    have hpq : p = q := by
      have h1 : q + w - p < 2 * w := by omega
      have h2 : w ∣ q + w - p := Nat.dvd_of_mod_eq_zero hd
      obtain ⟨c, hc⟩ := h2
      have h3 : c = 1 := by
        rcases Nat.lt_or_ge c 1 with h | h
        · have : c = 0 := by omega
          subst this
          simp at hc
          omega
        · rcases Nat.lt_or_ge 1 c with h' | h'
          · have : w * 2 ≤ w * c := Nat.mul_le_mul_left w h'
            omega
          · omega
      subst h3
      omega
    subst hpq
    refine ⟨p, hp, hf, fun r h => Ev.step (fun k => ?_) h⟩
    simp only [tuple_Parts.l1]
    rw [if_pos (by omega), if_pos (by omega), rdOf_nat, hf, if_neg (by simp), if_pos (by omega), Int.toNat_natCast]
  | succ δ ih =>
    intro p hp hd
    by_cases hfree : met.getD p false = false
    · refine ⟨p, hp, hfree, fun r h => Ev.step (fun k => ?_) h⟩
      simp only [tuple_Parts.l1]
      rw [if_pos (by omega), if_pos (by omega), rdOf_nat, hfree, if_neg (by simp), if_pos (by omega), Int.toNat_natCast]
    · have hp1 : (p + 1) % w < w := Nat.mod_lt _ hw
      have hd1 : (q + w - (p + 1) % w) % w = δ := by
        by_cases hl : p + 1 < w
        · rw [Nat.mod_eq_of_lt hl]
          by_cases hqp : q ≤ p
          · have e1 : (q + w - p) % w = q + w - p ∨ q = p := by
              by_cases e : q = p
              · exact .inr e
              · exact .inl (Nat.mod_eq_of_lt (by omega))
            rcases e1 with e1 | e1
            · rw [e1] at hd
              rw [Nat.mod_eq_of_lt (by omega)]
              omega
            · subst e1
              rw [show q + w - q = w from by omega, Nat.mod_self] at hd
              omega
          · have e1 : (q + w - p) % w = q - p := by
              rw [show q + w - p = (q - p) + w from by omega, Nat.add_mod_right, Nat.mod_eq_of_lt (by omega)]
            rw [e1] at hd
            rw [show q + w - (p + 1) = (q - (p + 1)) + w from by omega, Nat.add_mod_right, Nat.mod_eq_of_lt (by omega)]
            omega
        · have hpw : p + 1 = w := by omega
          rw [hpw, Nat.mod_self, Nat.sub_zero, Nat.add_mod_right, Nat.mod_eq_of_lt hq]
          by_cases e : q = p
          · subst e
            rw [show q + w - q = w from by omega, Nat.mod_self] at hd
            omega
          · rw [Nat.mod_eq_of_lt (by omega)] at hd
            omega
      obtain ⟨p', hp', hf', hgo⟩ := ih ((p + 1) % w) hp1 hd1
      refine ⟨p', hp', hf', fun r h => Ev.step (fun k => ?_) (hgo r h)⟩
      simp only [tuple_Parts.l1]
      have ht : met.getD p false = true := by
        cases hh : met.getD p false with
        | true => rfl
        | false => exact absurd hh hfree
      have hwr : Int.tmod (wrap64 ((p : Int) + 1)) (w : Int) = (((p + 1) % w : Nat) : Int) := by
        have : wrap64 ((p : Int) + 1) = ((p + 1 : Nat) : Int) := by
          unfold wrap64
          omega
        rw [this]
        rfl
      rw [if_pos (by omega), if_pos (by omega), rdOf_nat, ht, if_pos rfl, if_neg (by omega), hwr]

/-- all but the last of a symbol's parts -/
structure Fine (w : Nat) (met : List Bool) (out : List Int) : Prop where
  size : met.length = w
  count : met.count true = out.length
  nodup : out.Nodup
  low : ∀ x ∈ out, 0 ≤ x ∧ x < w
  met : ∀ x ∈ out, met.getD x.toNat false = true

theorem Fine.free {w : Nat} {met : List Bool} {out : List Int} (h : Fine w met out) (hl : out.length < w) : ∃ q, q < w ∧ met.getD q false = false := by
  refine Classical.byContradiction fun hn => ?_
  have hall : ∀ b ∈ met, true = b := by
    intro b hb
    obtain ⟨i, hi, he⟩ := List.getElem_of_mem hb
    cases b with
    | true => rfl
    | false =>
      exact absurd ⟨i, by have := h.size; omega, by simp [List.getD_eq_getElem?_getD, List.getElem?_eq_getElem hi, he]⟩ hn
  have := List.count_eq_length.2 hall
  have h1 := h.count
  have h2 := h.size
  omega

theorem Fine.put {w : Nat} {met : List Bool} {out : List Int} (h : Fine w met out) {p : Nat} (hp : p < w) (hf : met.getD p false = false) : Fine w (met.set p true) (out ++ [(p : Int)]) := by
  have hs := h.size
  have hpl : p < met.length := by omega
  have hg : met[p] = false := by
    rw [List.getD_eq_getElem?_getD, List.getElem?_eq_getElem hpl] at hf
    exact hf
  refine ⟨by simp [hs], ?_, ?_, ?_, ?_⟩
  · rw [List.count_set hpl, h.count]
    simp [hg]
  · rw [List.nodup_append]
    refine ⟨h.nodup, by simp, fun x hx y hy => ?_⟩
    simp at hy
    subst hy
    intro e
    subst e
    have := h.met _ hx
    rw [Int.toNat_natCast, hf] at this
    cases this
  · intro x hx
    rcases List.mem_append.1 hx with hx | hx
    · exact h.low x hx
    · simp at hx
      omega
  · intro x hx
    rcases List.mem_append.1 hx with hx | hx
    · have h1 := h.met x hx
      rw [List.getD_eq_getElem?_getD] at h1 ⊢
      rw [List.getElem?_set]
      split
      · rfl
      · exact h1
    · simp at hx
      subst hx
      rw [List.getD_eq_getElem?_getD, Int.toNat_natCast, List.getElem?_set_self hpl]
      rfl

/-- what a symbol's parts are: some among the first w, and one behind these -/
structure PartsOk (w h d : Nat) (l : List Int) : Prop where
  form : ∃ (out : List Int) (t : Int), l = out ++ [(w : Int) + t] ∧ 0 ≤ t ∧ t < h ∧ out.length = d ∧ out.Nodup ∧ ∀ x ∈ out, 0 ≤ x ∧ x < w

theorem l0_ev (w : Nat) (hw : 0 < w) (hw2 : w ≤ 1000) (h : Nat) (hh : 0 < h) (hh2 : h ≤ 1000) (y a b s0 s1 : Int) (hy : 0 ≤ y ∧ y ≤ 4294967295) (ha : 0 ≤ a ∧ a ≤ 1000) (hb : 0 ≤ b ∧ b ≤ 1000) (d : Nat) (hd : d ≤ w) :
    ∀ (n i : Nat) (met : List Bool) (out : List Int), d - i = n → i ≤ d → out.length = i → Fine w met out → ∃ l, PartsOk w h d l ∧ Ev (fun k => tuple_Parts.l0 k (w : Int) y a b met out (d : Int) (i : Int) s0 s1 (h : Int)) l := by
  intro n
  induction n with
  | zero =>
    intro i met out hn hi ho hf
    obtain rfl : i = d := by omega
    obtain ⟨z, z0, z1, hz⟩ := rand_z y 3 hy
    have h1 := Int.emod_nonneg z (show (h : Int) ≠ 0 by omega)
    have h2 := Int.emod_lt_of_pos z (show 0 < (h : Int) by omega)
    refine ⟨out ++ [(w : Int) + z % h], ⟨out, z % h, rfl, h1, h2, ho, hf.nodup, hf.low⟩, Ev.step (f := fun _ => some (out ++ [(w : Int) + z % h])) (fun k => ?_) (Ev.now _)⟩
    simp only [tuple_Parts.l0]
    rw [if_neg (by omega), hz _ (by omega)]
    simp only [Option.bind_some]
    have : wrap64 ((w : Int) + z % h) = (w : Int) + z % h := by
      unfold wrap64
      omega
    rw [if_pos (by omega), this]
  | succ n ih =>
    intro i met out hn hi ho hf
    have hn1 : d - (i + 1) = n := by omega
    have hn2 : i + 1 ≤ d := by omega
    have hn3 : ∀ v : Int, (out ++ [v]).length = i + 1 := fun v => by simp; omega
    have hn4 : out.length < 1000 := by omega
    have hc1 : (i : Int) < (d : Int) := by omega
    have hc2 : ¬ (w : Int) = 0 := by omega
    obtain ⟨q, hq, hqf⟩ := hf.free (by omega)
    have hia : 0 ≤ (i : Int) * a ∧ (i : Int) * a ≤ 1000 * 1000 := ⟨Int.mul_nonneg (by omega) ha.1, Int.mul_le_mul (by omega) ha.2 ha.1 (by omega)⟩
    have hw1 : wrap64 ((i : Int) * a) = (i : Int) * a := by
      unfold wrap64
      omega
    have hw2' : wrap64 (b + (i : Int) * a) = b + (i : Int) * a := by
      unfold wrap64
      omega
    obtain ⟨P, hP⟩ : ∃ P : Nat, (P : Int) = b + (i : Int) * a := ⟨(b + (i : Int) * a).toNat, by omega⟩
    have hlt : P % w < w := Nat.mod_lt _ hw
    obtain ⟨p', hp', hf', hgo⟩ := l1_ev w hw hw2 met hf.size q hq hqf w y a b d i s0 s1 h rfl out hn4 _ (P % w) hlt rfl
    have hwi : wrap64 ((i : Int) + 1) = ((i + 1 : Nat) : Int) := by
      unfold wrap64
      omega
    obtain ⟨l, hl, hev⟩ := ih (i + 1) (met.set p' true) (out ++ [(p' : Int)]) hn1 hn2 (hn3 _) (hf.put hp' hf')
    have hev1 := hgo l
    rw [hwi] at hev1
    have hev2 := hev1 hev
    clear hgo hev hev1 ih hf
    refine ⟨l, hl, Ev.step (fun k => ?_) hev2⟩
    simp only [tuple_Parts.l0]
    have ht : Int.tmod (P : Int) (w : Int) = ((P % w : Nat) : Int) := rfl
    rw [if_pos hc1, if_neg hc2, hw1, hw2', ← hP, ht]

theorem mod32 (z : Int) : 0 ≤ z % 4294967296 ∧ z % 4294967296 ≤ 4294967295 := by omega
theorem seed_y (x1 x2 : Int) : 0 ≤ (wrap64 ((wrap64 (x1 * 65537)) + (wrap64 (x2 * 31)))) % 4294967296 ∧ (wrap64 ((wrap64 (x1 * 65537)) + (wrap64 (x2 * 31)))) % 4294967296 ≤ 4294967295 :=
  mod32 _

theorem of_right (K : Int) (h : 1 ≤ K ∧ K ≤ 40) : params_Of.f K = some (K, 2 + K / 8, 2, 0) := by
  unfold params_Of.f
  rw [if_neg (by omega), if_neg (by omega)]
  have h1 : Int.tdiv K 8 = K / 8 := Int.tdiv_eq_ediv_of_nonneg (by omega)
  rw [h1]
  have h2 : wrap64 (K / 8) = K / 8 := by
    unfold wrap64
    omega
  rw [h2]
  have h3 : wrap64 (2 + K / 8) = 2 + K / 8 := by
    unfold wrap64
    omega
  rw [h3]
theorem of_wrong (K : Int) (h : K < 1 ∨ 40 < K) : params_Of.f K = some (0, 0, 0, 1) := by
  unfold params_Of.f
  by_cases h1 : K < 1
  · rw [if_pos h1]
  · rw [if_neg h1, if_pos (by omega)]
theorem right_is (K S H : Int) : params_Params_Right.f K S H = some (decide (1 ≤ K ∧ K ≤ 40 ∧ S = 2 + K / 8 ∧ H = 2)) := by
  unfold params_Params_Right.f
  by_cases h : 1 ≤ K ∧ K ≤ 40
  · rw [of_right K h]
    by_cases hS : S = 2 + K / 8 <;> by_cases hH : H = 2 <;> simp [h.1, h.2, hS, hH]
  · rw [of_wrong K (by omega)]
    have : ¬ (1 ≤ K ∧ K ≤ 40 ∧ S = 2 + K / 8 ∧ H = 2) := fun hc => h ⟨hc.1, hc.2.1⟩
    simp [this]

/-- the Params and the numbers of a symbol that has parts -/
def Has (K S H j esi : Int) : Prop := (1 ≤ K ∧ K ≤ 40 ∧ S = 2 + K / 8 ∧ H = 2) ∧ 0 ≤ j ∧ j ≤ 255 ∧ 0 ≤ esi ∧ esi < 16777216

theorem parts_no (K S H j esi : Int) (h : ¬ Has K S H j esi) : Ev (fun k => tuple_Parts.f k K S H j esi) [] := by
  have j0 : Ev (fun k => tuple_Parts.j0 k j esi true K S H) [] := Ev.step (f := fun _ => some []) (fun k => by simp only [tuple_Parts.j0, if_true]) (Ev.now _)
  unfold tuple_Parts.f
  rw [right_is]
  simp only [Option.bind_some]
  by_cases h0 : 1 ≤ K ∧ K ≤ 40 ∧ S = 2 + K / 8 ∧ H = 2
  · rw [decide_eq_true h0]
    simp only [if_true]
    by_cases h1 : j < 0
    · simp only [h1, if_true]; exact j0
    · by_cases h2 : j > 255
      · simp only [h1, h2, if_true, if_false]; exact j0
      · by_cases h3 : esi < 0
        · simp only [h1, h2, h3, if_true, if_false]; exact j0
        · have h4 : esi ≥ 16777216 := by
            refine Classical.byContradiction fun h4 => h ⟨h0, ?_, ?_, ?_, ?_⟩ <;> omega
          simp only [h1, h2, h3, h4, if_false, decide_true]; exact j0
  · rw [decide_eq_false h0]
    simp only [Bool.false_eq_true, if_false]
    exact j0

theorem parts_yes (K S H j esi : Int) (h : Has K S H j esi) : ∃ l d, PartsOk (K + S).toNat 2 d l ∧ 1 ≤ d ∧ d ≤ 8 ∧ Ev (fun k => tuple_Parts.f k K S H j esi) l := by
  obtain ⟨⟨h1, h2, h3, h4⟩, hj0, hj1, he0, he1⟩ := h
  subst h3 h4
  have hy := seed_y j esi
  obtain ⟨z0, z01, z02, hz0⟩ := rand_z _ 0 hy
  obtain ⟨z1, z11, z12, hz1⟩ := rand_z _ 1 hy
  obtain ⟨z2, z21, z22, hz2⟩ := rand_z _ 2 hy
  have hwn : K + (2 + K / 8) = (((K + (2 + K / 8)).toNat : Nat) : Int) := by omega
  have hwr : wrap64 (K + (2 + K / 8)) = (((K + (2 + K / 8)).toNat : Nat) : Int) := by
    unfold wrap64
    omega
  have hw3 : 3 ≤ (K + (2 + K / 8)).toNat ∧ (K + (2 + K / 8)).toNat ≤ 47 := by omega
  generalize (K + (2 + K / 8)).toNat = w at hwn hwr hw3 ⊢
  have hdg := degI_bd (z0 % 1048576)
  obtain ⟨d, hd⟩ : ∃ d : Nat, (d : Int) = mn (w : Int) (degI (z0 % 1048576)) := ⟨(mn (w : Int) (degI (z0 % 1048576))).toNat, by unfold mn; omega⟩
  have hd8 : 1 ≤ d ∧ d ≤ 8 ∧ d ≤ w := by unfold mn at hd; omega
  have ha0 := Int.emod_nonneg z1 (show ((w : Int) - 1) ≠ 0 by omega)
  have ha1 := Int.emod_lt_of_pos z1 (show 0 < (w : Int) - 1 by omega)
  have hb0 := Int.emod_nonneg z2 (show (w : Int) ≠ 0 by omega)
  have hb1 := Int.emod_lt_of_pos z2 (show 0 < (w : Int) by omega)
  have hfine : Fine w (List.replicate w false) [] := ⟨by simp, by simp [List.count_replicate], by simp, by simp, by simp⟩
  obtain ⟨l, hl, hev⟩ := l0_ev w (by omega) (by omega) 2 (by decide) (by decide) ((wrap64 ((wrap64 (j * 65537)) + (wrap64 (esi * 31)))) % 4294967296) (1 + z1 % ((w : Int) - 1)) (z2 % w) K (2 + K / 8) hy (by omega) (by omega) d hd8.2.2 (d - 0) 0 (List.replicate w false) [] rfl (by omega) rfl hfine
  refine ⟨l, d, hl, hd8.1, hd8.2.1, ?_⟩
  have j1 : Ev (fun k => tuple_Parts.j1 k (w : Int) ((wrap64 ((wrap64 (j * 65537)) + (wrap64 (esi * 31)))) % 4294967296) (d : Int) (1 + z1 % ((w : Int) - 1)) (z2 % w) K (2 + K / 8) 2) l := by
    refine Ev.step (fun k => ?_) hev
    simp only [tuple_Parts.j1]
    rw [if_pos (by omega), if_pos (by omega)]
    rfl
  have j0 : Ev (fun k => tuple_Parts.j0 k j esi false K (2 + K / 8) 2) l := by
    obtain ⟨k1, hk1⟩ := j1
    refine ⟨k1 + 9, fun k hk => ?_⟩
    obtain ⟨k, rfl⟩ : ∃ m, k = m + 1 := ⟨k - 1, by omega⟩
    simp only [tuple_Parts.j0, params_Params_W.f, Option.bind_some]
    rw [hwr, hz0 _ (by decide)]
    simp only [Option.bind_some]
    rw [deg_is _ k (by omega), hz2 _ (by omega)]
    simp only [Option.bind_some]
    have hw1 : wrap64 ((w : Int) - 1) = (w : Int) - 1 := by
      unfold wrap64
      omega
    rw [if_neg (by decide), if_pos (by omega), hw1, hz1 _ (by omega)]
    simp only [Option.bind_some]
    have ha : wrap64 (1 + z1 % ((w : Int) - 1)) = 1 + z1 % ((w : Int) - 1) := by
      unfold wrap64
      omega
    rw [ha, ← hd]
    exact hk1 k (by omega)
  unfold tuple_Parts.f
  rw [right_is]
  simp only [Option.bind_some]
  have e1 : ¬ j < 0 := by omega
  have e2 : ¬ j > 255 := by omega
  have e3 : ¬ esi < 0 := by omega
  have e4 : ¬ esi ≥ 16777216 := by omega
  simp only [h1, h2, e1, e2, e3, e4, and_self, decide_true, if_true, if_false, decide_false]
  exact j0

theorem PartsOk.facts {w h d : Nat} {l : List Int} (p : PartsOk w h d l) : l.length = d + 1 ∧ (∀ i : Nat, i < l.length → 0 ≤ rd l i ∧ rd l i < w + h ∧ (i = d → (w : Int) ≤ rd l i) ∧ (i < d → rd l i < w)) ∧ ∀ n i : Nat, n < i → i < l.length → rd l n ≠ rd l i := by
  obtain ⟨out, t, rfl, h0, h1, hd, hn, hl⟩ := p.form
  have hlast : rd (out ++ [(w : Int) + t]) (d : Int) = (w : Int) + t := by
    simp [rd, ← hd]
  have hin : ∀ i : Nat, i < d → rd (out ++ [(w : Int) + t]) (i : Int) ∈ out ∧ rd (out ++ [(w : Int) + t]) (i : Int) = out.getD i 0 := by
    intro i hi
    have : rd (out ++ [(w : Int) + t]) (i : Int) = out[i]'(by omega) := by
      simp [rd, List.getElem?_append_left (show i < out.length by omega), List.getElem?_eq_getElem (show i < out.length by omega)]
    rw [this]
    refine ⟨List.getElem_mem _, ?_⟩
    simp [List.getD_eq_getElem?_getD, List.getElem?_eq_getElem (show i < out.length by omega)]
  refine ⟨by simp [hd], fun i hi => ?_, fun n i hni hi => ?_⟩
  · have hi' : i = d ∨ i < d := by simp [hd] at hi; omega
    rcases hi' with rfl | hi'
    · rw [hlast]
      omega
    · have := hl _ (hin i hi').1
      omega
  · have hi' : i = d ∨ i < d := by simp [hd] at hi; omega
    rcases hi' with rfl | hi'
    · have := hl _ (hin n hni).1
      rw [hlast]
      omega
    · rw [(hin n (by omega)).2, (hin i hi').2]
      simp only [List.getD_eq_getElem?_getD, List.getElem?_eq_getElem (show n < out.length by omega), List.getElem?_eq_getElem (show i < out.length by omega), Option.getD_some]
      exact (List.pairwise_iff_getElem.1 hn) n i (by omega) (by omega) hni

theorem Ev.bnd {α β : Type} {g : Nat → Option α} {f : Nat → α → Option β} {a : α} {r : β} (h : Ev g a) (k : Ev (fun n => f n a) r) : Ev (fun n => (g n).bind (f n)) r := Ev.bind h k


theorem add_ev (a b : Int) (ha : Byte a) : Ev (fun k => field_Add.f k [a, b]) (xb a b) := by
  refine ⟨3, fun k hk => ?_⟩
  obtain ⟨k, rfl⟩ : ∃ m, k = m + 1 + 1 + 1 := ⟨k - 3, by omega⟩
  have w0 : wrap64 ((0 : Int) + 1) = 1 := by decide +kernel
  have w1 : wrap64 ((1 : Int) + 1) = 2 := by decide +kernel
  have r0 : rd [a, b] 0 = a := rfl
  have r1 : rd [a, b] 1 = b := rfl
  have l2 : (([a, b] : List Int).length : Int) = 2 := rfl
  show field_Add.l0 (k + 1 + 1 + 1) 0 [a, b] (([a, b] : List Int).length : Int) 0 = _
  rw [field_Add.l0, l2, if_pos (by decide), if_pos (by decide), if_pos (by decide), w0, r0]
  rw [field_Add.l0, l2, if_pos (by decide), if_pos (by decide), if_pos (by decide), w1, r1]
  rw [field_Add.l0, if_neg (by decide)]
  congr 1
  have e : Go.bits .xor .u8 0 a = a := by
    have := zero_xb ha
    unfold xb at this
    exact this
  rw [e]
  unfold xb
  rfl

theorem rd_nat (l : List Int) (i : Nat) : rd l (i : Int) = l.getD i 0 := by simp [rd]

theorem sum_l1 (l : List (List Int)) (row out : List Int) (ho : Bytes out) (hn : out.length ≤ 1000) (j : Int) (r : List Int) (h : Ev (fun k => rows_Sum.l0 k (addRow out row) l (l.length : Int) (wrap64 (j + 1))) r) :
    ∀ (d i : Nat), min out.length row.length - i = d → i ≤ min out.length row.length → Ev (fun k => rows_Sum.l1 k (mid out row i) row l (l.length : Int) j (mn (out.length : Int) (row.length : Int)) (i : Int)) r := by
  have hm : mn (out.length : Int) (row.length : Int) = ((min out.length row.length : Nat) : Int) := by
    unfold mn
    omega
  rw [hm]
  intro d
  induction d with
  | zero =>
    intro i hd hi
    have e : mid out row i = addRow out row := by
      have : i = min out.length row.length := by omega
      rcases Nat.le_total out.length row.length with hh | hh
      · have : i = out.length := by omega
        rw [this, mid_all]
      · have : i = row.length := by omega
        rw [this, mid_end ho _ (Nat.le_refl _) hh]
    rw [e]
    refine Ev.step (fun k => ?_) h
    rw [rows_Sum.l1, if_neg (by omega)]
  | succ d ih =>
    intro i hd hi
    have hwi : wrap64 ((i : Int) + 1) = ((i + 1 : Nat) : Int) := by
      unfold wrap64
      omega
    have h1 := mid_getD out row i (by omega)
    refine Ev.step (f := fun k => (field_Add.f k [out.getD i 0, row.getD i 0]).bind fun t => rows_Sum.l1 k ((mid out row i).set i t) row l (l.length : Int) j ((min out.length row.length : Nat) : Int) ((i + 1 : Nat) : Int)) (fun k => ?_) (Ev.bind (add_ev (out.getD i 0) (row.getD i 0) (getD_byte ho i)) (Ev.congr (fun k => ?_) (ih (i + 1) (by omega) (by omega))))
    · rw [rows_Sum.l1, if_pos (by omega), if_pos (by omega), if_pos (by rw [mid_length]; omega), if_pos (by omega), rd_nat, rd_nat, h1, hwi, Int.toNat_natCast]
    · rw [mid_set out row i (by omega)]

theorem rdL_mem (l : List (List Int)) (i : Nat) (h : i < l.length) : rd_L3 l (i : Int) = l[i] := by
  simp [rd_L3, List.getElem?_eq_getElem h]

theorem sum_l0 (l : List (List Int)) (hl : ∀ row ∈ l, Bytes row) (hlen : l.length ≤ 1000) :
    ∀ (d i : Nat) (out : List Int), l.length - i = d → i ≤ l.length → Bytes out → out.length ≤ 1000 → Ev (fun k => rows_Sum.l0 k out l (l.length : Int) (i : Int)) ((l.drop i).foldl addRow out) := by
  intro d
  induction d with
  | zero =>
    intro i out hd hi ho hn
    rw [List.drop_of_length_le (by omega)]
    refine Ev.step (f := fun _ => some out) (fun k => ?_) (Ev.now _)
    rw [rows_Sum.l0, if_neg (by omega)]
  | succ d ih =>
    intro i out hd hi ho hn
    have hwi : wrap64 ((i : Int) + 1) = ((i + 1 : Nat) : Int) := by
      unfold wrap64
      omega
    have hlt : i < l.length := by omega
    have h3 : l.drop i = l[i] :: l.drop (i + 1) := List.drop_eq_getElem_cons hlt
    rw [h3, List.foldl_cons]
    have hrow := hl _ (List.getElem_mem hlt)
    have h1 := sum_l1 l l[i] out ho hn (i : Int) _ (by rw [hwi]; exact ih (i + 1) (addRow out l[i]) (by omega) (by omega) (addRow_bytes ho hrow) (by rw [addRow_length]; exact hn)) (min out.length (l[i]).length - 0) 0 rfl (by omega)
    rw [mid_zero] at h1
    refine Ev.step (fun k => ?_) h1
    rw [rows_Sum.l0, if_pos (by omega), if_pos (by omega), if_pos (by omega), rdL_mem l i hlt]
    rfl

theorem sum_ev (n : Int) (l : List (List Int)) (hn : 0 ≤ n ∧ n ≤ 1000) (hl : ∀ row ∈ l, Bytes row) (hlen : l.length ≤ 1000) : Ev (fun k => rows_Sum.f k n l) (sumRows n.toNat l) := by
  have e : mx 0 (mn n 1000) = n := by
    unfold mx mn
    omega
  have h := sum_l0 l hl hlen l.length 0 (List.replicate n.toNat 0) (by omega) (by omega) (replicate_bytes _) (by simp; omega)
  rw [List.drop_zero] at h
  unfold sumRows
  refine Ev.congr (fun k => ?_) h
  rw [rows_Sum.f, e, if_pos hn.1, if_pos (by omega)]
  rfl

theorem rsum_l1 (l : List (List Int)) (out : List Int) (hn : out.length ≤ 1000) (j : Nat) (hj : j < l.length) (r : List Int) (h : Ev (fun k => fountainref1_Sum.l0 k l (addRow out l[j]) (wrap64 ((j : Int) + 1))) r) :
    ∀ (d i : Nat), out.length - i = d → i ≤ out.length → Ev (fun k => fountainref1_Sum.l1 k l (mid out l[j] i) (j : Int) (i : Int)) r := by
  intro d
  induction d with
  | zero =>
    intro i hd hi
    have e : i = out.length := by omega
    rw [e, mid_all]
    refine Ev.step (fun k => ?_) h
    rw [fountainref1_Sum.l1, if_neg (by rw [addRow_length]; omega)]
  | succ d ih =>
    intro i hd hi
    have hwi : wrap64 ((i : Int) + 1) = ((i + 1 : Nat) : Int) := by
      unfold wrap64
      omega
    have h1 := mid_getD out l[j] i (by omega)
    have hat : fountainref1_at.f l[j] (i : Int) = some (l[j].getD i 0) := by
      unfold fountainref1_at.f
      by_cases hc : (i : Int) < ((l[j]).length : Int)
      · rw [if_pos hc, if_pos (by omega), rd_nat]
      · rw [if_neg hc, List.getD_eq_getElem?_getD, List.getElem?_eq_none (by omega)]
        rfl
    refine Ev.step (fun k => ?_) (ih (i + 1) (by omega) (by omega))
    have hx : Go.bits .xor .u8 (out.getD i 0) (l[j].getD i 0) = xb (out.getD i 0) (l[j].getD i 0) := by
      unfold xb
      rfl
    rw [fountainref1_Sum.l1, if_pos (by rw [mid_length]; omega), if_pos (by omega), if_pos (by omega), if_pos (by omega), rdL_mem l j hj, hat, Option.bind_some, rd_nat, h1, hwi, Int.toNat_natCast, hx, mid_set out l[j] i (by omega)]

theorem rsum_l0 (l : List (List Int)) (hl : ∀ row ∈ l, Bytes row) (hlen : l.length ≤ 1000) :
    ∀ (d i : Nat) (out : List Int), l.length - i = d → i ≤ l.length → Bytes out → out.length ≤ 1000 → Ev (fun k => fountainref1_Sum.l0 k l out (i : Int)) ((l.drop i).foldl addRow out) := by
  intro d
  induction d with
  | zero =>
    intro i out hd hi ho hn
    rw [List.drop_of_length_le (by omega)]
    refine Ev.step (f := fun _ => some out) (fun k => ?_) (Ev.now _)
    rw [fountainref1_Sum.l0, if_neg (by omega)]
  | succ d ih =>
    intro i out hd hi ho hn
    have hwi : wrap64 ((i : Int) + 1) = ((i + 1 : Nat) : Int) := by
      unfold wrap64
      omega
    have hlt : i < l.length := by omega
    have h3 : l.drop i = l[i] :: l.drop (i + 1) := List.drop_eq_getElem_cons hlt
    rw [h3, List.foldl_cons]
    have hrow := hl _ (List.getElem_mem hlt)
    have h1 := rsum_l1 l out hn i hlt _ (by rw [hwi]; exact ih (i + 1) (addRow out l[i]) (by omega) (by omega) (addRow_bytes ho hrow) (by rw [addRow_length]; exact hn)) out.length 0 (by omega) (by omega)
    rw [mid_zero] at h1
    refine Ev.step (fun k => ?_) h1
    rw [fountainref1_Sum.l0, if_pos (by omega)]
    rfl

theorem rsum_ev (n : Int) (l : List (List Int)) (hn : 0 ≤ n ∧ n ≤ 1000) (hl : ∀ row ∈ l, Bytes row) (hlen : l.length ≤ 1000) : Ev (fun k => fountainref1_Sum.f k n l) (sumRows n.toNat l) := by
  have e : fountainref1_Cut.f n 0 1000 = some n := by
    unfold fountainref1_Cut.f
    rw [if_neg (by omega), if_neg (by omega)]
  have h := rsum_l0 l hl hlen l.length 0 (List.replicate n.toNat 0) (by omega) (by omega) (replicate_bytes _) (by simp; omega)
  rw [List.drop_zero] at h
  unfold sumRows
  refine Ev.congr (fun k => ?_) h
  rw [fountainref1_Sum.f, e, Option.bind_some, if_pos hn.1, if_pos (by omega)]
  rfl

/-- To: the same rows -/
theorem to_ev (l : List (List Int)) (hlen : l.length ≤ 1000) (hl : ∀ row ∈ l, row.length ≤ 140737488351232) : Ev (fun k => fountainlaw2_To.f k l) l := by
  have key : ∀ (d i : Nat), l.length - i = d → i ≤ l.length → Ev (fun k => fountainlaw2_To.l0 k l (l.take i) (i : Int)) l := by
    intro d
    induction d with
    | zero =>
      intro i hd hi
      refine Ev.step (f := fun _ => some l) (fun k => ?_) (Ev.now _)
      rw [fountainlaw2_To.l0, if_neg (by omega), List.take_of_length_le (by omega)]
    | succ d ih =>
      intro i hd hi
      have hlt : i < l.length := by omega
      have hwi : wrap64 ((i : Int) + 1) = ((i + 1 : Nat) : Int) := by
        unfold wrap64
        omega
      have hr := hl _ (List.getElem_mem hlt)
      refine Ev.step (fun k => ?_) (ih (i + 1) (by omega) (by omega))
      have e : l.take i ++ [([] : List Int) ++ l[i]] = l.take (i + 1) := by
        rw [List.nil_append, List.take_succ_eq_append_getElem hlt]
      rw [fountainlaw2_To.l0, if_pos (by omega), if_pos (by omega), rdL_mem l i hlt, if_pos (by simp only [List.length_nil]; omega), if_pos (by rw [List.length_take]; omega), hwi, e]
  exact key l.length 0 (by omega) (by omega)

/-- some of the rows, by their numbers -/
theorem drop_l0 (size : Int) (hs : 1 ≤ size ∧ size ≤ 64) (c : List (List Int)) (hc : ∀ row ∈ c, Bytes row) (ps : List Int) (hp : ps.length ≤ 9) (hin : ∀ x ∈ ps, 0 ≤ x ∧ x < c.length) :
    ∀ (d i : Nat), ps.length - i = d → i ≤ ps.length → Ev (fun k => drops_Drop.l0 k size c ((ps.take i).map fun p => rd_L3 c p) ps (ps.length : Int) (i : Int)) (sumRows size.toNat (ps.map fun p => rd_L3 c p)) := by
  intro d
  induction d with
  | zero =>
    intro i hd hi
    rw [List.take_of_length_le (by omega)]
    have hb : ∀ row ∈ ps.map (fun p => rd_L3 c p), Bytes row := by
      intro row hr
      obtain ⟨p, hp', rfl⟩ := List.mem_map.1 hr
      have := hin p hp'
      have e : rd_L3 c p = c[p.toNat]'(by omega) := by
        simp [rd_L3, List.getElem?_eq_getElem (show p.toNat < c.length by omega)]
      rw [e]
      exact hc _ (List.getElem_mem _)
    refine Ev.step (fun k => ?_) (Ev.bind (sum_ev size _ ⟨by omega, by omega⟩ hb (by simp; omega)) (Ev.now _))
    rw [drops_Drop.l0, if_neg (by omega)]
  | succ d ih =>
    intro i hd hi
    have hlt : i < ps.length := by omega
    have hwi : wrap64 ((i : Int) + 1) = ((i + 1 : Nat) : Int) := by
      unfold wrap64
      omega
    have e1 : rd ps (i : Int) = ps[i] := by rw [rd_nat, List.getD_eq_getElem?_getD, List.getElem?_eq_getElem hlt]; rfl
    have h1 := hin _ (List.getElem_mem hlt)
    refine Ev.step (fun k => ?_) (ih (i + 1) (by omega) (by omega))
    rw [drops_Drop.l0, if_pos (by omega), if_pos (by omega), if_pos (by omega), e1, if_pos h1.1, if_pos h1.2, if_pos (by simp; omega), hwi, List.take_succ_eq_append_getElem hlt, List.map_append]
    rfl
theorem drop_no (P0 P1 P2 j size esi : Int) (c : List (List Int)) (h : ¬ Has P0 P1 P2 j esi) : Ev (fun k => drops_Drop.f k P0 P1 P2 j size c esi) [] := by
  unfold drops_Drop.f
  refine Ev.bind (parts_no P0 P1 P2 j esi h) ?_
  have j0 : ∀ b, b = true → Ev (fun k => drops_Drop.j0 k size c [] b) [] := fun b hb => Ev.step (f := fun _ => some []) (fun k => by rw [drops_Drop.j0, if_pos hb]) (Ev.now _)
  refine Ev.congr (fun k => ?_) (j0 true rfl)
  rw [if_pos (by decide)]
theorem L_is (K : Int) (h : 1 ≤ K ∧ K ≤ 40) : params_Params_L.f K (2 + K / 8) 2 = some (K + (2 + K / 8) + 2) ∧ fountainref1_L.f K = some (K + (2 + K / 8) + 2) := by
  have q3 : wrap64 (K + (2 + K / 8)) = K + (2 + K / 8) := by
    unfold wrap64
    omega
  have q4 : wrap64 (K + (2 + K / 8) + 2) = K + (2 + K / 8) + 2 := by
    unfold wrap64
    omega
  refine ⟨by rw [params_Params_L.f, params_Params_W.f, Option.bind_some, q3, q4], ?_⟩
  have q1 : wrap64 (K / 8) = K / 8 := by
    unfold wrap64
    omega
  have q2 : wrap64 (2 + K / 8) = 2 + K / 8 := by
    unfold wrap64
    omega
  rw [fountainref1_L.f, fountainref1_W.f, fountainref1_S.f, show Int.tdiv K 8 = K / 8 from Int.tdiv_eq_ediv_of_nonneg (by omega), Option.bind_some, q1, q2, Option.bind_some, q3, q4]

/-- a symbol: nothing, or the sum of some rows; the reference's is the same -/
theorem drop_yes (K j size esi : Int) (h : Has K (2 + K / 8) 2 j esi) : ∃ ps : List Int, ps.length ≤ 9 ∧ (∀ x ∈ ps, 0 ≤ x ∧ x < K + (2 + K / 8) + 2) ∧ ∀ c : List (List Int), (∀ row ∈ c, Bytes row) →
    ((¬ ((c.length : Int) = K + (2 + K / 8) + 2 ∧ 1 ≤ size ∧ size ≤ 64)) → Ev (fun k => drops_Drop.f k K (2 + K / 8) 2 j size c esi) []) ∧
    (((c.length : Int) = K + (2 + K / 8) + 2 ∧ 1 ≤ size ∧ size ≤ 64) → Ev (fun k => drops_Drop.f k K (2 + K / 8) 2 j size c esi) (sumRows size.toNat (ps.map fun p => rd_L3 c p))) := by
  obtain ⟨l, d, hl, hd1, hd2, hev⟩ := parts_yes K (2 + K / 8) 2 j esi h
  have hK := h.1
  obtain ⟨hlen, hf, _⟩ := hl.facts
  have hin : ∀ x ∈ l, 0 ≤ x ∧ x < K + (2 + K / 8) + 2 := by
    intro x hx
    obtain ⟨i, hi, rfl⟩ := List.getElem_of_mem hx
    have e : rd l (i : Int) = l[i] := by rw [rd_nat, List.getD_eq_getElem?_getD, List.getElem?_eq_getElem hi]; rfl
    have := hf i hi
    rw [e] at this
    omega
  obtain ⟨L1, L2⟩ := L_is K ⟨hK.1, hK.2.1⟩
  refine ⟨l, by omega, hin, fun c hc => ⟨fun hno => ?_, fun hyes => ?_⟩⟩
  · have j0 : Ev (fun k => drops_Drop.j0 k size c l true) [] := Ev.step (f := fun _ => some []) (fun k => by rw [drops_Drop.j0, if_pos rfl]) (Ev.now _)
    · unfold drops_Drop.f
      refine Ev.bind hev ?_
      refine Ev.congr (fun k => ?_) j0
      rw [if_neg (by omega), L1, Option.bind_some]
      by_cases c1 : (c.length : Int) = K + (2 + K / 8) + 2
      · rw [if_pos c1]
        by_cases c2 : size < 1
        · rw [if_pos c2]
        · rw [if_neg c2, decide_eq_true (by omega)]
      · rw [if_neg c1]
  · obtain ⟨c1, c2, c3⟩ := hyes
    have hin' : ∀ x ∈ l, 0 ≤ x ∧ x < c.length := fun x hx => by have := hin x hx; omega
    have j0 : Ev (fun k => drops_Drop.j0 k size c l false) (sumRows size.toNat (l.map fun p => rd_L3 c p)) := by
      refine Ev.step (fun k => ?_) (drop_l0 size ⟨c2, c3⟩ c hc l (by omega) hin' l.length 0 (by omega) (by omega))
      rw [drops_Drop.j0, if_neg (by decide)]
      rfl
    · unfold drops_Drop.f
      refine Ev.bind hev ?_
      refine Ev.congr (fun k => ?_) j0
      rw [if_neg (by omega), L1, Option.bind_some, if_pos c1, if_neg (by omega), decide_eq_false (by omega)]

theorem alive_ev : Ev (fun k => fountainlaw8_alive.f k) true := by
  have hH : Has 1 (2 + 1 / 8) 2 0 0 := by unfold Has; decide
  obtain ⟨ps, _, _, hps⟩ := drop_yes 1 0 1 0 hH
  have hto := to_ev (List.replicate 5 []) (by decide) (fun row hr => by rw [(List.mem_replicate.1 hr).2]; decide)
  have hd := (hps (List.replicate 5 []) (fun row hr => by rw [(List.mem_replicate.1 hr).2]; intro x hx; cases hx)).2 (by decide)
  have h0 := drop_no 0 0 0 0 1 0 [] (by unfold Has; decide)
  have key : Ev (fun k => (drops_Drop.f k 0 0 0 0 1 [] 0).bind fun t => if (t.length : Int) = 0 then (fountainlaw2_To.f k (List.replicate 5 [])).bind fun t2 => (drops_Drop.f k 1 (2 + 1 / 8) 2 0 1 t2 0).bind fun t3 => some ((t3.length : Int) == 1) else some false) true := by
    refine Ev.bind h0 ?_
    simp only [List.length_nil, Int.natCast_zero, if_true]
    refine Ev.bind hto (Ev.bind hd (Ev.congr (fun k => ?_) (Ev.now true)))
    rw [sumRows_length]
    rfl
  refine Ev.congr (fun k => ?_) key
  unfold fountainlaw8_alive.f
  rw [of_right 1 (by decide), Option.bind_some, if_pos (by decide)]

/-- Few: it answers -/
theorem few_ev (l : List (List Int)) (hlen : l.length ≤ 1000) (hl : ∀ row ∈ l, row.length ≤ 140737488351232) : ∃ b, Ev (fun k => fountainlaw2_Few.f k l) b := by
  have key : ∀ (d i : Nat) (n : Int), l.length - i = d → i ≤ l.length → 0 ≤ n → n ≤ 140737488360000 → ∃ b, Ev (fun k => fountainlaw2_Few.l0 k l n (i : Int)) b := by
    intro d
    induction d with
    | zero =>
      intro i n hd hi h0 h1
      refine ⟨decide (n ≤ 4000), Ev.step (f := fun _ => some (decide (n ≤ 4000))) (fun k => ?_) (Ev.now _)⟩
      rw [fountainlaw2_Few.l0, if_neg (by omega)]
    | succ d ih =>
      intro i n hd hi h0 h1
      have hlt : i < l.length := by omega
      by_cases hn : n ≤ 4000
      · have hr := hl _ (List.getElem_mem hlt)
        have hwi : wrap64 ((i : Int) + 1) = ((i + 1 : Nat) : Int) := by
          unfold wrap64
          omega
        have hwn : wrap64 (wrap64 (n + 1) + ((l[i]).length : Int)) = n + 1 + ((l[i]).length : Int) := by
          unfold wrap64
          omega
        obtain ⟨b, hb⟩ := ih (i + 1) (n + 1 + ((l[i]).length : Int)) (by omega) (by omega) (by omega) (by omega)
        refine ⟨b, Ev.step (fun k => ?_) hb⟩
        rw [fountainlaw2_Few.l0, if_pos (by omega), if_pos hn, if_pos (by omega), rdL_mem l i hlt, hwi, hwn]
      · refine ⟨decide (n ≤ 4000), Ev.step (f := fun _ => some (decide (n ≤ 4000))) (fun k => ?_) (Ev.now _)⟩
        rw [fountainlaw2_Few.l0, if_pos (by omega), if_neg hn]
  exact key l.length 0 0 (by omega) (by omega) (by omega) (by omega)

end Go.Proofs.Ytenokchfabmkfaa.TupDropsLine
