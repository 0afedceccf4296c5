/- Look's know, New, Heard, Done. -/
import Derived.Test.YtbkcopejclcfdaaLkKnow
namespace Go.Proofs.Ytbkcopejclcfdaa
open Go.RowKit Go.Proofs.YtbkcopejclcfdaaW.PrintLast Go.Proofs.Ytbkcopejclcfdaa.Sum
set_option linter.unusedVariables false
set_option linter.unusedSimpArgs false
theorem stepK_has {self x : Int} {kn : List Int} (h : kn.contains x = true) : stepK self kn x = kn := by
  unfold stepK
  rw [h]
  simp
theorem stepK_new {self x : Int} {kn : List Int} (h0 : 0 ≤ x) (h1 : ¬ x = self) (h : kn.contains x = false) : stepK self kn x = kn ++ [x] := by
  unfold stepK
  rw [h]
  simp [h0, h1]
theorem stepK_self {self x : Int} {kn : List Int} (h1 : x = self) : stepK self kn x = kn := by
  unfold stepK
  rw [if_neg (by simp [h1])]
theorem stepK_neg {self x : Int} {kn : List Int} (h1 : ¬ 0 ≤ x) : stepK self kn x = kn := by
  unfold stepK
  rw [if_neg (by simp [h1])]
/-- the rounds of know -/
structure KI (t : TypeId) (W wr : World) (p : Nat) (S : LS) (v1 v2 v3 : Value) (l : List Int) (k : Nat) (u : Value) (kn : List Int) : Prop where
  e : knowL S.self S.known (l.take k) = kn
  o : LO t wr p { S with known := kn } u v2 v3
  st : LStep W p v1 v2 v3 wr u v2 v3
theorem KI.start {t : TypeId} {W : World} {p : Nat} {S : LS} {v1 v2 v3 : Value} (h : LO t W p S v1 v2 v3) (l : List Int) : KI t W W p S v1 v2 v3 l 0 v1 S.known := ⟨rfl, h, LStep.refl _ _ _ _ _⟩
theorem KI.skip {t : TypeId} {W wr w1 : World} {p : Nat} {S : LS} {v1 v2 v3 u : Value} {l kn : List Int} {k : Nat} {x : Int} (h : KI t W wr p S v1 v2 v3 l k u kn) (hk : k < l.length) (hx : l[k] = x) (hs : stepK S.self kn x = kn) (hb : Below wr.heap.size wr w1) : KI t W w1 p S v1 v2 v3 l (k + 1) u kn :=
  ⟨by rw [knowL_succ _ _ _ _ hk, h.e, hx, hs], h.o.below hb, h.st.trans (LStep.below hb)⟩
theorem KI.put {t : TypeId} {W wr w1 w2 : World} {p : Nat} {S : LS} {v1 v2 v3 u u' : Value} {l kn : List Int} {k : Nat} {x : Int} (h : KI t W wr p S v1 v2 v3 l k u kn) (ht : t ≠ 3) (hk : k < l.length) (hx : l[k] = x) (hs : stepK S.self kn x = kn ++ [x]) (hb : Below wr.heap.size wr w1)
    (ho : w2.ownsRow 0 3 1 u' (kn.length + 1) (ints kn ++ [.int .i64 x])) (T : Turns (fun b => u.ownBlock = some b) w1 w2) (hf : Fresh w1 u u') : KI t W (w2.setCell ⟨p, 21, none⟩ u') p S v1 v2 v3 l (k + 1) u' (kn ++ [x]) := by
  have h1 := (h.o.below hb).set1 ht (u := u') (l := kn ++ [x]) (by rw [ints_append, List.length_append]; exact ho) T hf
  exact ⟨by rw [knowL_succ _ _ _ _ hk, h.e, hx, hs], h1.1, (h.st.trans (LStep.below hb)).trans h1.2⟩
theorem KI.reads {t : TypeId} {W wr : World} {p : Nat} {S : LS} {v1 v2 v3 u : Value} {l kn : List Int} {k : Nat} {A : Option Addr} (h : KI t W wr p S v1 v2 v3 l k u kn) (hr : Reads W A (ints l)) (hA : ∀ a, A = some a → ¬ foot p v1 v2 v3 a.block) : Reads wr A (ints l) := hr.keep h.st.T hA
theorem KI.le {t : TypeId} {W wr : World} {p : Nat} {S : LS} {v1 v2 v3 u : Value} {l kn : List Int} {k : Nat} (h : KI t W wr p S v1 v2 v3 l k u kn) (hl : S.known.length + l.length ≤ 1000000) : kn.length ≤ 1000000 := by
  have := knowL_le S.self (l.take k) S.known
  rw [h.e, List.length_take] at this
  omega
theorem own_at {w : World} {x : Int} : ∀ j u, [Value.int .i64 x][j]? = some u → (w.alloc (.cells #[.int .i64 x] 3)).cell? ((⟨w.heap.size, 0, none⟩ : Addr).add j) = some u := fun j u hu => by
  rw [Addr.add_lit, Nat.zero_add, World.cell?_alloc_new, List.getElem?_toArray]
  exact hu
theorem one_cell (x : Int) : ∀ u ∈ [Value.int .i64 x], u.oneCell' = true := fun u hu => by
  simp only [List.mem_cons, List.not_mem_nil, or_false] at hu
  subst hu
  rfl
set_option maxHeartbeats 4000000 in
set_option maxRecDepth 20000 in
theorem know_any (W : World) (p : Nat) (S : LS) (v1 v2 v3 : Value) (A : Option Addr) (n cap : Nat) (l : List Int) (h : LO 88 W p S v1 v2 v3) (hl : S.known.length + l.length ≤ 1000000) (hn : n = l.length) (hr : Reads W A (ints l)) (hA : 0 < l.length → ∀ a, A = some a → ¬ foot p v1 v2 v3 a.block) :
    Calls Try.prog 62 #[.pointer (some ⟨p, 0, none⟩), .slice A n cap] W (fun e W' => e = .returned (.tuple #[]) ∧ ∃ u, LO 88 W' p (S.know l) u v2 v3 ∧ LStep W p v1 v2 v3 W' u v2 v3) := by
  have HN := Lib.hid hn
  have HR := Lib.hid hr
  have HA := Lib.hid hA
  have K0 := Lib.hid (KI.start h l)
  obtain ⟨i0, hi, hz0, hz1, hz2⟩ := info_parts info3p
  clear h hn hr hA
  go_enter Try.func62, Try.ntmps62
  go_wp2
  go_loopw [8] (fun i wr => ∃ k : Nat, k ≤ n ∧ i = .int .i64 k ∧ ∃ u kn, KI 88 W wr p S v1 v2 v3 l k u kn) (fun i _ => n - (intOf i).toNat)
  case atStart => exact ⟨0, Nat.zero_le _, rfl, v1, _, K0.out⟩
  case round =>
    obtain ⟨k, hk, rfl, u, kn, hK⟩ := hrel
    by_cases hlt : k < n
    · have hkl : k < l.length := by rw [← HN.out]; exact hlt
      obtain ⟨b, off, rfl, hb, hc⟩ := reads_int (hK.reads HR.out (HA.out (by omega))) k hkl
      obtain ⟨x, hx⟩ : ∃ x, l[k] = x := ⟨_, rfl⟩
      rw [hx] at hc
      have HX := Lib.hid hx
      have i1 : (k : Int) < (n : Int) := by omega
      have c20 : wr.cell? ⟨p, 20, none⟩ = some (.int .i64 S.self) := hK.o.c20
      have hlk := hK.le hl
      obtain ⟨ad, cu, rfl⟩ := slice_of_own hK.o.o1
      have c21 : wr.cell? ⟨p, 21, none⟩ = some (.slice ad kn.length cu) := hK.o.c21
      have HCO := Lib.hid (contains_any wr ad kn.length cu kn x rfl (by omega) (Reads.of_own hK.o.o1))
      have hp := hK.o.lt
      have HK := Lib.hid hK
      have HSK := Lib.hid (fun (w1 : World) => hK.skip (w1 := w1) hkl hx)
      clear hx hK
      by_cases h0 : 0 ≤ x
      · by_cases hself : x = S.self
        · have e1 : (x != S.self) = false := by simpa using hself
          have HS2 := Lib.hid (HSK.out wr (stepK_self hself) (Below.refl _ _))
          clear hself
          generalize S.self = s at *
          go_wp2
          exact ⟨⟨k + 1, by omega, by go_num, _, _, HS2.out⟩, by simp [intOf]; omega⟩
        · have e1 : (x != S.self) = true := by simpa using hself
          rcases Bool.eq_false_or_eq_true (kn.contains x) with hq | hq
          · rw [hq] at HCO
            have HS2 := Lib.hid (fun (w1 : World) hb => HSK.out w1 (stepK_has hq) hb)
            clear hself hq
            go_wp2_with fail
            refine HCO.out.mono ?_
            rintro e w1 ⟨rfl, hb1⟩
            have HS3 := Lib.hid (HS2.out w1 hb1)
            clear hb1
            go_wp2
            exact ⟨⟨k + 1, by omega, by go_num, _, _, HS3.out⟩, by simp [intOf]; omega⟩
          · rw [hq] at HCO
            have HST := Lib.hid (stepK_new h0 hself hq)
            clear hself hq
            go_wp2_with fail
            refine HCO.out.mono ?_
            rintro e w1 ⟨rfl, hb1⟩
            have hk1 := HK.out.o.below hb1
            have c211 : w1.cell? ⟨p, 21, none⟩ = some (.slice ad kn.length cu) := hk1.c21
            have ow1 : (w1.alloc (.cells #[.int .i64 x] 3)).ownsRow 0 3 1 (.slice ad kn.length cu) kn.length (ints kn) := hk1.o1.alloc _
            have blk1 := hk1.blk
            have hne1 := own_ne hk1.o1 hk1.blk (by decide)
            have hp1 := hk1.lt
            have HB1 := Lib.hid (hb1.trans ((Below.refl w1.heap.size w1).alloc (Nat.le_refl _) (.cells #[.int .i64 x] 3) |>.mono hb1.size))
            have HBK := Lib.hid (show (w1.alloc (.cells #[.int .i64 x] 3)).heap[p]? = some (.cells (lcells S.k S.self (.slice ad kn.length cu) v2 v3) 88 (0, 0)) by rw [heap_alloc_old _ _ hp1]; exact blk1)
            have HKL := Lib.hid HK.out.o.key.len
            clear c21 c20 hb1 hk1 blk1
            go_wp2_with (at_builtin; refine wpList_row_append _ rfl (.tmp 35) (.tmp 37) 27 rfl 0 (Nat.zero_le _) 3 i0 _ 1 8 Try.underlying27 hi hz0 hz1 hz2 rfl (by decide) _ _ _ rfl ow1 ⟨w1.heap.size, 0, none⟩ 1 1 [.int .i64 x] rfl rfl own_at (one_cell x) (by omega) (by decide) ?_)
            intro v' w' ow' hg' hf'
            obtain ⟨ad', cap', rfl⟩ := slice_of_own ow'
            have b2 := hg'.keep HBK.out (fun e => hne1 e)
            have c2 : w'.cell? ⟨p, 21, none⟩ = some (.slice ad kn.length cu) := by rw [cell_of_blk b2]; exact lcells_at S.k HKL.out S.self 1
            have f2 : w'.frozen? ⟨p, 21, none⟩ = false := free_of_blk b2
            have HP := Lib.hid (HK.out.put (by decide) hkl HX.out HST.out HB1.out ow' hg' hf')
            clear ow' hg' hf' b2 ow1 hne1
            go_wp2
            exact ⟨⟨k + 1, by omega, by go_num, _, _, HP.out⟩, by simp [intOf]; omega⟩
      · have HS2 := Lib.hid (HSK.out wr (stepK_neg h0) (Below.refl _ _))
        generalize S.self = s at *
        go_wp2
        exact ⟨⟨k + 1, by omega, by go_num, _, _, HS2.out⟩, by simp [intOf]; omega⟩
    · have hkn : k = n := by omega
      subst hkn
      have hI : l.take k = l := List.take_of_length_le (by rw [← HN.out]; exact Nat.le_refl _)
      have ho := hK.o
      have he := hK.e
      rw [hI] at he
      rw [← he] at ho
      have HO := Lib.hid ho
      have HS := Lib.hid hK.st
      clear ho hK hI he
      go_wp2
      go_end0
      exact ⟨rfl, u, HO.out, HS.out⟩
end Go.Proofs.Ytbkcopejclcfdaa
