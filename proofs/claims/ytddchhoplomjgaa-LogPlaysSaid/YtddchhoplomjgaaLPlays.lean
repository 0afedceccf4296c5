/- LogPlays' walk. -/
import Derived.Test.YtddchhoplomjgaaLPS
import Derived.Test.YtddchhoplomjgaaBOne
import Derived.Deep.MidRow
namespace Go.Proofs.Ytddchhoplomjgaa
open Go.RowKit Go.Proofs.YtddchhoplomjgaaW.PrintLast
set_option linter.unusedVariables false
set_option linter.unusedSimpArgs false
theorem info71 : (Try.prog.info? 71).map (·.size) = some 3 := by kernel_rfl
theorem allP_len (b : List Int) : (allP b).length ≤ b.length := by
  induction h : b.length using Nat.strongRecOn generalizing b with
  | _ n ih =>
    rcases hn : nextP b with _ | ⟨ys, k⟩
    · rw [allP_none hn]; simp
    · have hk := nextP_some hn
      rw [allP_some hn]
      have := ih (b.drop k).length (by rw [List.length_drop]; omega) (b.drop k) rfl
      rw [List.length_drop] at this
      simp
      omega
theorem allP_bytes (b : List Int) (hb : Bytes b) : ∀ x ∈ allP b, Bytes x ∧ x.length ≤ b.length := by
  induction h : b.length using Nat.strongRecOn generalizing b with
  | _ n ih =>
    rcases hn : nextP b with _ | ⟨ys, k⟩
    · rw [allP_none hn]; intro x hx; simp at hx
    · have hk := nextP_some hn
      rw [allP_some hn]
      intro x hx
      rcases List.mem_cons.1 hx with rfl | hx
      · refine ⟨?_, by omega⟩
        rw [hk.2.2.1]
        exact (hb.take k).drop 2
      · have := ih (b.drop k).length (by rw [List.length_drop]; omega) (b.drop k) (hb.drop k) rfl x hx
        rw [List.length_drop] at this
        exact ⟨this.1, by omega⟩
def zAct : Array Value := #[.int .i64 0, .int .i64 0, .slice none 0 0]
set_option maxHeartbeats 1000000 in
theorem lplays_out (W : World) (A : Option Addr) (n cap : Nat) (hn : 100 < n) : Calls Try.prog 9 #[.slice A n cap] W fun e W' => e = .returned (.bool true) ∧ Below W.heap.size W W' := by
  have d1 : decide (100 < (n : Int)) = true := by simp; omega
  go_enter Try.func9, Try.ntmps9
  go_wp2_with fail
  refine (lalive_any _).mono ?_
  rintro e w1 ⟨rfl, hb⟩
  go_wp2
  go_ret
  exact ⟨rfl, hb⟩
set_option maxRecDepth 100000 in
set_option maxHeartbeats 4000000 in
theorem lplays_in (W : World) (A : Option Addr) (n cap : Nat) (xs : List LAct) (hn : n = xs.length) (h100 : n ≤ 100) (ha : LActs W A xs) : Calls Try.prog 9 #[.slice A n cap] W fun e W' => e = .returned (.bool true) ∧ Below W.heap.size W W' := by
  have d1 : decide (100 < (n : Int)) = false := by simp; omega
  have HN := Lib.hid hn
  have HA := Lib.hid ha
  clear hn ha
  go_enter Try.func9, Try.ntmps9
  go_wp2_with fail
  refine (lalive_any _).mono ?_
  rintro e w1 ⟨rfl, hb⟩
  have h0 := Lib.hid (PL.new w1)
  have HB := Lib.hid hb
  clear hb
  go_wp2
  go_loopw [7] (fun i wr => ∃ k : Nat, k ≤ n ∧ i = .int .i64 k ∧ ∃ ab ao ar cb co cr b bo so, ∃ sb : Nat, PL w1 wr w1.heap.size (w1.heap.size + 1) (w1.heap.size + 1 + 1) ab ao ar cb co cr b bo b sb so sb ∧ Good b sb ∧ b.length ≤ 302 * k ∧ bo.length ≤ 3 * k) (fun i _ => n - (intOf i).toNat)
  case atStart => exact ⟨0, Nat.zero_le _, rfl, _, _, _, _, _, _, _, _, _, 0, h0.out, Good.new, by simp, by simp⟩
  case round =>
    obtain ⟨k, hk, rfl, ab, ao, ar, cb, co, cr, b, bo, so, sb, hps, hgd, hbl, hol⟩ := hrel
    have HPS := Lib.hid hps
    have HGD := Lib.hid hgd
    clear hps hgd h0
    by_cases hlt : k < n
    · have hkl : k < xs.length := by rw [← HN.out]; exact hlt
      obtain ⟨bb, off, adB, capB, rfl, hbb, e1, e2, e3, e4, e5, e6, e7⟩ := HA.out k hkl
      obtain ⟨way, nn, B, hx⟩ : ∃ way nn B, xs[k] = ⟨way, nn, B⟩ := ⟨_, _, _, rfl⟩
      rw [hx] at e1 e2 e3 e4 e5 e6 e7
      have hbel := HB.out.trans (HPS.out.below.mono HB.out.size)
      have HBY := Lib.hid e5
      have HRB := Lib.hid e4
      have hcells : wr.rangeAt bb (off + k * 3) [.int .i64 way, .int .i64 nn, .slice adB B.length capB] := fun j u hu => by
        match j, hu with
        | 0, hu => cases hu; rw [hbel.cell (p := ⟨bb, off + k * 3 + 0, none⟩) hbb]; exact e1
        | 1, hu => cases hu; rw [hbel.cell (p := ⟨bb, off + k * 3 + 1, none⟩) hbb]; exact e2
        | 2, hu => cases hu; rw [hbel.cell (p := ⟨bb, off + k * 3 + 2, none⟩) hbb]; exact e3
      have HG := Lib.hid hcells
      have i1 : (k : Int) < (n : Int) := by omega
      have HLT := Lib.hid hbb
      by_cases h300 : 300 < B.length
      · have HF := Lib.hid hbel
        have d3 : decide (300 < (B.length : Int)) = true := by simp; omega
        clear e1 e2 e3 e4 e5 hcells hx hbel
        go_wp2_with (refine wpList_load_mid rfl 71 (.tmp 34) rfl bb (off + k * 3) rfl [.int .i64 way, .int .i64 nn, .slice adB B.length capB] _ HG.out Try.underlying71 rfl info71 ?_)
        go_ret
        exact ⟨rfl, HF.out.alloc (by have := HPS.out.below.size; have := HB.out.size; omega) _⟩
      have d3 : decide (300 < (B.length : Int)) = false := by simp; omega
      have TX := ((Turns.refl (fun _ => False) wr).alloc (.cells #[.int .i64 way, .int .i64 nn, .slice adB B.length capB] 71)).alloc (.cells #[.int .u8 k] 5)
      have hpsA := HPS.out.keep TX (fun _ h => h.elim)
      have hqA := heap_alloc_old (wr.alloc (.cells #[.int .i64 way, .int .i64 nn, .slice adB B.length capB] 71)) (.cells #[.int .u8 k] 5) (r := wr.heap.size) (by simp)
      rw [heap_alloc_new] at hqA
      have hgA := heap_alloc_new (wr.alloc (.cells #[.int .i64 way, .int .i64 nn, .slice adB B.length capB] 71)) (.cells #[.int .u8 k] 5)
      rw [World.size_alloc] at hgA
      have hqn := HPS.out.nf_ge (Nat.le_refl wr.heap.size)
      have hzA : wr.heap.size + 1 < ((wr.alloc (.cells #[.int .i64 way, .int .i64 nn, .slice adB B.length capB] 71)).alloc (.cells #[.int .u8 k] 5)).heap.size := by simp
      have hso := lappend_any _ _ _ (some ⟨wr.heap.size + 1, 0, none⟩) _ 1 1 _ [(k : Int)] _ hpsA.o (by omega) (fun j u hu => ⟨wr.heap.size + 1, 0, rfl, hzA, by rw [Nat.zero_add, cell_of_row _ _ j _ _ _ hgA, List.getElem?_toArray]; simpa [bv] using hu⟩) (fun x hx => by simp only [List.mem_cons, List.not_mem_nil, or_false] at hx; subst hx; exact ⟨by omega, by omega⟩) rfl (by omega) (.inr fun a ha => by
        injection ha with ha
        subst ha
        exact ⟨fun e => by have := HPS.out.o.foot _ (.inl rfl); dsimp only at e; omega, fun e => by have := HPS.out.o.foot _ (.inr e); dsimp only at this; omega⟩)
      have HSO := Lib.hid hso
      have HPSA := Lib.hid hpsA
      have HQA := Lib.hid hqA
      have HQN := Lib.hid hqn
      have HBL := Lib.hid hbl
      have HOL := Lib.hid hol
      have z0 := HPS.out.below.size
      clear e1 e2 e3 e4 e5 hcells hx TX hpsA hqA hqn hgA hso hbel hbl hol
      go_wp2_with (refine wpList_load_mid rfl 71 (.tmp 34) rfl bb (off + k * 3) rfl [.int .i64 way, .int .i64 nn, .slice adB B.length capB] _ HG.out Try.underlying71 rfl info71 ?_)
      refine HSO.out.mono ?_
      rintro e w2 hP
      obtain ⟨rfl, ao2, co2, hps2, T2, hn2⟩ := HPSA.out.stepo hP
      have hq2 := T2.keep HQA.out (fun h => h HQN.out)
      have nf2 := hn2 wr.heap.size (by simp; omega) HQN.out
      have HPS2 := Lib.hid hps2
      have HQ2 := Lib.hid hq2
      have HNF2 := Lib.hid nf2
      have f0 := cell_of_blk (i := 0) hq2
      have f1 := cell_of_blk (i := 1) hq2
      have f2 := cell_of_blk (i := 2) hq2
      simp at f0 f1 f2
      clear hP hps2 hq2 nf2 T2 hn2 HPSA HSO HPS HQA HQN
      by_cases w0 : way = 0
      · subst w0
        have hbl := HBL.out
        have hb9 : b.length ≤ 1000000000 := by omega
        have hB3 : B.length ≤ 300 := by omega
        have ow0 := World.ownsRow_nil w2 0 5 1
        have HAB := Lib.hid (show B = [] ∨ ∀ a, adB = some a → a.block < w1.heap.size by
          by_cases hB0 : B = []
          · exact .inl hB0
          · right
            intro a ha
            obtain ⟨b', off', h1, h2, _⟩ := HRB.out 0 _ (bv_get B 0 (by cases B; exact absurd rfl hB0; simp))
            rw [ha] at h1
            injection h1 with h1
            subst h1
            have := HB.out.size
            dsimp only
            omega)
        obtain ⟨i5, gi, gz0, gz1, gz2⟩ := info_parts info5
        have HRB2 := Lib.hid (HRB.out.below (HB.out.trans (HPS2.out.below.mono HB.out.size)))
        go_wp2_with (at_builtin; refine wpList_row_append_any _ rfl (.const (.slice none 0 0)) (.tmp 50) 38 rfl 0 (Nat.zero_le _) 5 i5 _ 1 1 Try.underlying38 gi gz0 gz1 gz2 rfl (by decide) (.slice none 0 0) 0 [] rfl ow0 adB B.length capB (bv B) rfl (by rw [bv_length, Nat.mul_one]) HRB2.out (bv_one _) (by omega) (by decide) ?_)
        intro v3 w3 ow3 hg3 hf3
        obtain ⟨adv, capv, hv3⟩ := slice_of_own ow3
        subst hv3
        have T3 : Turns (fun _ => False) w2 w3 := hg3.mono (fun k _ h => by cases h)
        have hn3 := hf3.new_ofL rfl
        have HPA := Lib.hid (show PL w1 w3.drew _ _ _ _ _ _ _ _ _ b _ b _ _ _ from (HPS2.out.keep T3 (fun _ h => h.elim)).keep (Turns.drew (Turns.refl (fun _ => False) _)) (fun _ h => h.elim))
        have hq3 := T3.keep HQ2.out (fun h => h)
        have cq3 : w3.drew.cell? ⟨wr.heap.size, 2, none⟩ = some (.slice adB B.length capB) := by have := cell_of_blk (i := 2) hq3; simpa using this
        have HQA := Lib.hid (show w3.drew.heap[wr.heap.size]? = some (.cells #[.int .i64 0, .int .i64 nn, .slice adB B.length capB] 71 (0, 0)) from hq3)
        have hoA : w3.drew.ownsRow 0 5 1 (.slice adv B.length capv) B.length (bv B) := by
          have h : w3.ownsRow 0 5 1 (.slice adv B.length capv) B.length (bv B) := by simpa using ow3
          exact h
        have HOA := Lib.hid hoA
        have HNQ := HNF2
        have HNW := Lib.hid (fun k' (hk' : (Value.slice adv B.length capv).ownBlock = some k') => HPS2.out.nf_ge (hn3 k' (by simpa using hk')))
        have HGW := Lib.hid (fun k' (hk' : (Value.slice adv B.length capv).ownBlock = some k') => Nat.le_trans HPS2.out.below.size (hn3 k' (by simpa using hk')))
        have HNV := Lib.hid (fun (a : Addr) (ha : adv = some a) => HNW.out a.block (by rw [ha]; rfl))
        clear ow3 hg3 hf3 T3 hn3 hq3 hoA f1 f2 HPS2 HQ2 ow0
        go_wp2
        refine start_ (n := 9) (S := fun w' => w'.cell? ⟨wr.heap.size, 2, none⟩ = some (.slice adB B.length capB)) (ds := [7]) #[false, false, false, false, false, false, false, false, false] (by kernel_rfl) rfl rfl (cq3) (fun hHeld => ?_)
        generalize w3.drew = wA at *
        refine pure_ (i := 0) (N := some 52) (v := ?_) (a' := ?_) #[true, false, false, false, false, false, false, false, false] rfl rfl (by kernel_rfl) (fun _ _ _ h => h) (Or.inl ⟨by rfl, ?_⟩) ?_ ?_
        rotate_left
        · intro w'
          go_simp
          with_reducible rfl
        rotate_left
        · simp only [Act.put, List.setIfInBounds_toArray, List.set_cons_zero, List.set_cons_succ]
          rfl
        refine pure_ (i := 1) (N := some 53) (v := ?_) (a' := ?_) #[true, true, false, false, false, false, false, false, false] rfl rfl (by kernel_rfl) (fun _ _ _ h => h) (Or.inl ⟨by rfl, ?_⟩) ?_ ?_
        rotate_left
        · intro w'
          go_simp
          with_reducible rfl
        rotate_left
        · simp only [Act.put, List.setIfInBounds_toArray, List.set_cons_zero, List.set_cons_succ]
          rfl
        refine pure_ (i := 4) (N := some 56) (v := ?_) (a' := ?_) #[true, true, false, false, true, false, false, false, false] rfl rfl (by kernel_rfl) (fun _ _ _ h => h) (Or.inl ⟨by rfl, ?_⟩) ?_ ?_
        rotate_left
        · intro w'
          go_simp
          with_reducible rfl
        rotate_left
        · simp only [Act.put, List.setIfInBounds_toArray, List.set_cons_zero, List.set_cons_succ]
          rfl
        refine pure_ (i := 5) (N := some 57) (v := ?_) (a' := ?_) #[true, true, false, false, true, true, false, false, false] rfl rfl (by kernel_rfl) (fun _ _ _ h => h) (Or.inl ⟨by rfl, ?_⟩) ?_ ?_
        rotate_left
        · intro w'
          go_simp
          with_reducible rfl
        rotate_left
        · simp only [Act.put, List.setIfInBounds_toArray, List.set_cons_zero, List.set_cons_succ]
          rfl
        refine take_ (i := 6) (N := some 58) (v := ?_) (a' := ?_) #[true, true, false, false, true, true, true, false, false] rfl rfl (by kernel_rfl) (fun _ _ _ h => h) (Or.inl ⟨by rfl, ?_⟩) hHeld ?_ ?_
        rotate_left
        · intro w' hSw
          (try dsimp only at hSw)
          go_simp
          with_reducible rfl
        rotate_left
        · simp only [Act.put, List.setIfInBounds_toArray, List.set_cons_zero, List.set_cons_succ]
          rfl
        refine one_ (i := 2) (N := some 54) #[true, true, true, false, true, true, true, false, false] rfl rfl (by kernel_rfl) (by decide) (fun K hK => ?_)
        refine goes_ Try.func17 (by kernel_rfl) rfl #[.pointer (some ⟨w1.heap.size, 0, none⟩), .slice adv B.length capv] (by rfl) rfl rfl (by (try simp only [List.map_toArray, List.map_cons, List.map_nil]); first | done | rfl) ?_
        refine (lappend_any wA _ _ adv _ capv _ _ B _ HPA.out.x hb9 (Reads.of_own HOA.out) HBY.out rfl (by omega) (.inr fun a ha => ⟨fun e => (HNV.out a ha).1 (.inl e), fun e => (HNV.out a ha).1 (.inr e)⟩)).mono ?_
        rintro e wB hP
        obtain ⟨rfl, abB, cbB, hpsB, TB, hnB⟩ := HPA.out.stepb hP
        have HPB := Lib.hid hpsB
        have HOB := Lib.hid (TB.own HOA.out (fun k' hk' h => h (HNW.out k' hk')))
        have hqB := TB.keep HQA.out (fun h => h HNQ.out)
        have HNQB := Lib.hid (hnB wr.heap.size (lt_of_block HQA.out) HNQ.out)
        have HNWB := Lib.hid (fun k' (hk' : (Value.slice adv B.length capv).ownBlock = some k') => hnB k' ((HOA.out.lt k' hk').2) (HNW.out k' hk'))
        clear hP hpsB TB hnB
        refine ⟨_, rfl, ?_⟩
        refine hK.out _ _ (by have := cell_of_blk (i := 2) hqB; simpa using this) (fun hHeld => ?_)
        clear hK K
        refine norm_ (a' := ?_) ?_ ?_
        rotate_left
        · (try unfold Act.put); simp only [Act.put, List.setIfInBounds_toArray, List.set_cons_zero, List.set_cons_succ]
          rfl
        refine one_ (i := 3) (N := some 55) #[true, true, true, true, true, true, true, false, false] rfl rfl (by kernel_rfl) (by decide) (fun K hK => ?_)
        refine goes_ Try.func18 (by kernel_rfl) rfl #[.int .i64 0] (by rfl) rfl rfl (by (try simp only [List.map_toArray, List.map_cons, List.map_nil]); first | done | rfl) ?_
        refine (num_any wB 0).mono ?_
        rintro e wC ⟨rfl, rfl⟩
        refine ⟨_, rfl, ?_⟩
        refine hK.out _ _ hHeld (fun hHeld => ?_)
        clear hK K
        refine norm_ (a' := ?_) ?_ ?_
        rotate_left
        · (try unfold Act.put); simp only [Act.put, List.setIfInBounds_toArray, List.set_cons_zero, List.set_cons_succ]
          rfl
        refine last_ (i := 7) (N := some 59) #[true, true, true, true, true, true, true, true, false] rfl rfl (by kernel_rfl) (by decide) (fun K hK => ?_)
        refine goes_ Try.func28 (by kernel_rfl) rfl #[.pointer (some ⟨w1.heap.size + 1 + 1, 0, none⟩), .slice adB B.length capB] (by rfl) rfl rfl (by (try simp only [List.map_toArray, List.map_cons, List.map_nil]); first | done | rfl) ?_
        refine (rlappend_any wB _ _ adB _ capB _ _ B _ HPB.out.r (by omega) (HRB.out.below (HB.out.trans (HPB.out.below.mono HB.out.size))) HBY.out rfl (by omega) (HAB.out.imp id fun hA a ha e => by have := HPB.out.gr _ (.inr e); have := hA a ha; omega)).mono ?_
        rintro e wC hP
        obtain ⟨rfl, arC, crC, hpsC, TC, hnC⟩ := HPB.out.stepr hP
        have HPC := Lib.hid hpsC
        have HOC := Lib.hid (TC.own HOB.out (fun k' hk' h => h (HNWB.out k' hk')))
        have HNWC := Lib.hid (fun k' (hk' : (Value.slice adv B.length capv).ownBlock = some k') => hnC k' ((HOB.out.lt k' hk').2) (HNWB.out k' hk'))
        clear hP hpsC TC hnC hqB
        refine ⟨_, rfl, ?_⟩
        refine hK.out _ _ ?_
        clear hK K
        refine norm_ (a' := ?_) ?_ ?_
        rotate_left
        · (try unfold Act.put); simp only [Act.put, List.setIfInBounds_toArray, List.set_cons_zero, List.set_cons_succ]
          rfl
        refine pure_ (i := 8) (N := some 60) (v := .bool false) (a' := ?_) #[true, true, true, true, true, true, true, true, true] rfl rfl (by kernel_rfl) (fun _ _ _ h => h) (Or.inl ⟨by rfl, ?_⟩) ?_ ?_
        · intro w'
          go_simp
        rotate_left
        · simp only [Act.put, List.setIfInBounds_toArray, List.set_cons_zero, List.set_cons_succ]
          rfl
        refine done_ (by kernel_rfl) ?_
        have HC := Lib.hid (show B.length = 0 ∨ ∃ g cur, adv = some ⟨g, 0, none⟩ ∧ wC.heap[g]? = some (.cells cur 5 (0, 0)) ∧ B.length ≤ cur.size by
          rcases HOC.out.2 with ⟨_, h2⟩ | ⟨g, cp, cur, h2, _, h3, h4, _, h5, _⟩
          · exact .inl h2
          · injection h2 with h2
            exact .inr ⟨g, cur, h2, h3, by omega⟩)
        have HNW2 := Lib.hid (fun (g : Nat) (hg : adv = some ⟨g, 0, none⟩) => HNWC.out g (by rw [hg]; rfl))
        have HGW2 := Lib.hid (fun (g : Nat) (hg : adv = some ⟨g, 0, none⟩) => HGW.out g (by rw [hg]; rfl))
        clear HOC HNWC HGW HNWB HOB HPB HPA HQA HOA HNQ HNQB HNW HNV hHeld cq3 f0
        go_wp2
        go_loopw [10] (fun i wv => ∃ j : Nat, j ≤ B.length ∧ i = .int .i64 j ∧ PL w1 wv w1.heap.size (w1.heap.size + 1) (w1.heap.size + 1 + 1) abB ao2 arC cbB co2 crC (b ++ packP B) (bo ++ packP [(k : Int)]) (b ++ packP B) sb so sb ∧ (B.length = 0 ∨ ∃ g cur, adv = some ⟨g, 0, none⟩ ∧ wv.heap[g]? = some (.cells cur 5 (0, 0)) ∧ B.length ≤ cur.size)) (fun i _ => B.length - (intOf i).toNat)
        case atStart => exact ⟨0, Nat.zero_le _, rfl, HPC.out, HC.out⟩
        case round =>
          obtain ⟨j, hj, rfl, hpj, hcj⟩ := hrel
          have HP9 := Lib.hid hpj
          clear hpj
          by_cases hjl : j < B.length
          · rcases hcj with hcj | ⟨g, cur, hadv, hgb, hcs⟩
            · omega
            · have ij : (j : Int) < (B.length : Int) := by omega
              obtain ⟨u, cj⟩ : ∃ u, wr.cell? ⟨g, j, none⟩ = some u := ⟨cur[j], by rw [cell_of_blk (i := j) hgb, Array.getElem?_eq_getElem (by omega)]⟩
              have fj := free_of_blk (i := j) hgb
              have b9 := blk_setCell hgb j (.int .u8 99)
              have TJ := Turns.setCell (F := fun k' => k' = g) (p := ⟨g, j, none⟩) (Turns.refl _ wr) (.inr rfl) (.int .u8 99)
              have HPJ := Lib.hid (HP9.out.turn TJ (HNW2.out g hadv) (HGW2.out g hadv))
              have HADV := Lib.hid hadv
              have HB9 := Lib.hid b9
              have HCS := Lib.hid hcs
              have hjc : j < B.length := hjl
              rw [hadv]
              clear TJ b9 hcs hgb hadv
              go_wp2
              go_roundw
              case rel => exact ⟨j + 1, by omega, by go_num, HPJ.out, .inr ⟨g, _, by first | rfl | exact HADV.out, HB9.out, by rw [Array.size_setIfInBounds]; exact HCS.out⟩⟩
              case measure => simp [intOf]; omega
          · have hjn : j = B.length := by omega
            subst hjn
            clear hcj
            have hpl : (b ++ packP B).length = b.length + (2 + B.length) := by rw [List.length_append, packP_length]
            have HBL9 := Lib.hid (show (b ++ packP B).length ≤ 302 * (k + 1) by rw [hpl]; omega)
            have HBLY := Lib.hid (show (b ++ packP B).length ≤ 1000000 by rw [hpl]; omega)
            have HGA := Lib.hid (HGD.out.append B (by omega))
            go_wp2
            obtain ⟨ar9, har9⟩ : ∃ x, x = arC := ⟨_, rfl⟩
            obtain ⟨cr9, hcr9⟩ : ∃ x, x = crC := ⟨_, rfl⟩
            rw [← har9, ← hcr9] at HP9
            clear har9 hcr9
            have HPA := Lib.hid (show PL w1 wr.drew _ _ _ _ _ _ _ _ _ (b ++ packP B) _ (b ++ packP B) _ _ _ from HP9.out.keep (Turns.drew (Turns.refl (fun _ => False) _)) (fun _ h => h.elim))
            have cr2 : wr.drew.cell? ⟨w1.heap.size + 1 + 1, 0, none⟩ = some (.slice ar9 (b ++ packP B).length cr9) := by have := cell_of_blk (i := 0) HP9.out.r.blk; simpa using this
            have hlen9 : (b ++ packP B).length ≤ 1000000 := HBLY.out
            have HBB := Lib.hid (allP_bytes (b ++ packP B) HP9.out.x.bytes)
            clear HP9
            refine start_ (n := 16) (S := fun w' => w'.cell? ⟨w1.heap.size + 1 + 1, 0, none⟩ = some (.slice ar9 (b ++ packP B).length cr9)) (ds := []) #[false, false, false, false, false, false, false, false, false, false, false, false, false, false, false, false] (by kernel_rfl) rfl rfl (cr2) (fun hHeld => ?_)
            generalize wr.drew = wA at *
            refine pure_ (i := 0) (N := some 86) (v := ?_) (a' := ?_) #[true, false, false, false, false, false, false, false, false, false, false, false, false, false, false, false] rfl rfl (by kernel_rfl) (fun _ _ _ h => h) (Or.inl ⟨by rfl, ?_⟩) ?_ ?_
            rotate_left
            · intro w'
              go_simp
              with_reducible rfl
            rotate_left
            · simp only [Act.put, List.setIfInBounds_toArray, List.set_cons_zero, List.set_cons_succ]
              rfl
            refine pure_ (i := 2) (N := some 88) (v := ?_) (a' := ?_) #[true, false, true, false, false, false, false, false, false, false, false, false, false, false, false, false] rfl rfl (by kernel_rfl) (fun _ _ _ h => h) (Or.inl ⟨by rfl, ?_⟩) ?_ ?_
            rotate_left
            · intro w'
              go_simp
              with_reducible rfl
            rotate_left
            · simp only [Act.put, List.setIfInBounds_toArray, List.set_cons_zero, List.set_cons_succ]
              rfl
            refine one_ (i := 1) (N := some 87) #[true, true, true, false, false, false, false, false, false, false, false, false, false, false, false, false] rfl rfl (by kernel_rfl) (by decide) (fun K hK => ?_)
            refine goes_ Try.func20 (by kernel_rfl) rfl #[.pointer (some ⟨w1.heap.size, 0, none⟩)] (by rfl) rfl rfl (by (try simp only [List.map_toArray, List.map_cons, List.map_nil]); first | done | rfl) ?_
            refine (all_any wA _ _ _ _ _ HPA.out.x (by omega)).mono ?_
            rintro e wB ⟨v1, rfl, hr1, hb1⟩
            obtain ⟨ad1, cap1, rfl⟩ := hr1.shape
            have HPB := Lib.hid (HPA.out.later hb1)
            have HR1 := Lib.hid hr1
            have HZ1 := Lib.hid hb1.size
            clear hr1 hb1
            refine ⟨_, rfl, ?_⟩
            refine hK.out _ _ (by have := cell_of_blk (i := 0) HPB.out.r.blk; simpa using this) (fun hHeld => ?_)
            clear hK K
            refine norm_ (a' := ?_) ?_ ?_
            rotate_left
            · (try unfold Act.put); simp only [Act.put, List.setIfInBounds_toArray, List.set_cons_zero, List.set_cons_succ]
              rfl
            refine one_ (i := 3) (N := some 89) #[true, true, true, true, false, false, false, false, false, false, false, false, false, false, false, false] rfl rfl (by kernel_rfl) (by decide) (fun K hK => ?_)
            refine goes_ Try.func34 (by kernel_rfl) rfl #[.pointer (some ⟨w1.heap.size + 1 + 1, 0, none⟩)] (by rfl) rfl rfl (by (try simp only [List.map_toArray, List.map_cons, List.map_nil]); first | done | rfl) ?_
            refine (rall_any wB _ _ _ _ _ HPB.out.r (by omega)).mono ?_
            rintro e wC ⟨v2, rfl, hr2, hb2⟩
            obtain ⟨ad2, cap2, rfl⟩ := hr2.shape
            have HPC := Lib.hid (HPB.out.later hb2)
            have HRC := Lib.hid (HR1.out.belowB hb2)
            have HR2 := Lib.hid hr2
            clear hr2 hb2
            refine ⟨_, rfl, ?_⟩
            refine hK.out _ _ (by have := cell_of_blk (i := 0) HPC.out.r.blk; simpa using this) (fun hHeld => ?_)
            clear hK K
            refine norm_ (a' := ?_) ?_ ?_
            rotate_left
            · (try unfold Act.put); simp only [Act.put, List.setIfInBounds_toArray, List.set_cons_zero, List.set_cons_succ]
              rfl
            refine one_ (i := 4) (N := some 90) #[true, true, true, true, true, false, false, false, false, false, false, false, false, false, false, false] rfl rfl (by kernel_rfl) (by decide) (fun K hK => ?_)
            refine goes_ Try.func33 (by kernel_rfl) rfl #[.slice ad1 (allP (b ++ packP B)).length cap1, .slice ad2 (allP (b ++ packP B)).length cap2] (by rfl) rfl rfl (by (try simp only [List.map_toArray, List.map_cons, List.map_nil]); first | done | rfl) ?_
            refine (same_any wC ad1 ad2 _ _ cap1 cap2 (allP (b ++ packP B)) (allP (b ++ packP B)) HRC.out.rd HR2.out.rd rfl rfl (by have := allP_len (b ++ packP B); omega) (by have := allP_len (b ++ packP B); omega) (fun x hx => ⟨(HBB.out x hx).1, by have := (HBB.out x hx).2; omega⟩) (fun x hx => ⟨(HBB.out x hx).1, by have := (HBB.out x hx).2; omega⟩)).mono ?_
            rw [show decide (allP (b ++ packP B) = allP (b ++ packP B)) = true from by simp]
            rintro e wD ⟨rfl, hb3⟩
            have HPD := Lib.hid (HPC.out.later hb3)
            clear hb3
            refine ⟨_, rfl, ?_⟩
            refine hK.out _ _ (by have := cell_of_blk (i := 0) HPD.out.r.blk; simpa using this) (fun hHeld => ?_)
            clear hK K
            refine norm_ (a' := ?_) ?_ ?_
            rotate_left
            · (try unfold Act.put); simp only [Act.put, List.setIfInBounds_toArray, List.set_cons_zero, List.set_cons_succ]
              rfl
            refine pure_ (i := 5) (N := some 91) (v := ?_) (a' := ?_) #[true, true, true, true, true, true, false, false, false, false, false, false, false, false, false, false] rfl rfl (by kernel_rfl) (fun _ _ _ h => h) (Or.inl ⟨by rfl, ?_⟩) ?_ ?_
            rotate_left
            · intro w'
              go_simp
              with_reducible rfl
            rotate_left
            · simp only [Act.put, List.setIfInBounds_toArray, List.set_cons_zero, List.set_cons_succ]
              rfl
            refine pure_ (i := 6) (N := some 92) (v := ?_) (a' := ?_) #[true, true, true, true, true, true, true, false, false, false, false, false, false, false, false, false] rfl rfl (by kernel_rfl) (fun _ _ _ h => h) (Or.inl ⟨by rfl, ?_⟩) ?_ ?_
            rotate_left
            · intro w'
              go_simp
              with_reducible rfl
            rotate_left
            · simp only [Act.put, List.setIfInBounds_toArray, List.set_cons_zero, List.set_cons_succ]
              rfl
            refine pure_ (i := 7) (N := some 93) (v := ?_) (a' := ?_) #[true, true, true, true, true, true, true, true, false, false, false, false, false, false, false, false] rfl rfl (by kernel_rfl) (fun _ _ _ h => h) (Or.inl ⟨by rfl, ?_⟩) ?_ ?_
            rotate_left
            · intro w'
              go_simp
              with_reducible rfl
            rotate_left
            · simp only [Act.put, List.setIfInBounds_toArray, List.set_cons_zero, List.set_cons_succ]
              rfl
            refine pure_ (i := 9) (N := some 95) (v := ?_) (a' := ?_) #[true, true, true, true, true, true, true, true, false, true, false, false, false, false, false, false] rfl rfl (by kernel_rfl) (fun _ _ _ h => h) (Or.inl ⟨by rfl, ?_⟩) ?_ ?_
            rotate_left
            · intro w'
              go_simp
              with_reducible rfl
            rotate_left
            · simp only [Act.put, List.setIfInBounds_toArray, List.set_cons_zero, List.set_cons_succ]
              rfl
            refine pure_ (i := 10) (N := some 96) (v := ?_) (a' := ?_) #[true, true, true, true, true, true, true, true, false, true, true, false, false, false, false, false] rfl rfl (by kernel_rfl) (fun _ _ _ h => h) (Or.inl ⟨by rfl, ?_⟩) ?_ ?_
            rotate_left
            · intro w'
              go_simp
              with_reducible rfl
            rotate_left
            · simp only [Act.put, List.setIfInBounds_toArray, List.set_cons_zero, List.set_cons_succ]
              rfl
            refine pure_ (i := 11) (N := some 97) (v := ?_) (a' := ?_) #[true, true, true, true, true, true, true, true, false, true, true, true, false, false, false, false] rfl rfl (by kernel_rfl) (fun _ _ _ h => h) (Or.inl ⟨by rfl, ?_⟩) ?_ ?_
            rotate_left
            · intro w'
              go_simp
              with_reducible rfl
            rotate_left
            · simp only [Act.put, List.setIfInBounds_toArray, List.set_cons_zero, List.set_cons_succ]
              rfl
            refine take_ (i := 12) (N := some 98) (v := ?_) (a' := ?_) #[true, true, true, true, true, true, true, true, false, true, true, true, true, false, false, false] rfl rfl (by kernel_rfl) (fun _ _ _ h => h) (Or.inl ⟨by rfl, ?_⟩) hHeld ?_ ?_
            rotate_left
            · intro w' hSw
              (try dsimp only at hSw)
              go_simp
              with_reducible rfl
            rotate_left
            · simp only [Act.put, List.setIfInBounds_toArray, List.set_cons_zero, List.set_cons_succ]
              rfl
            refine pure_ (i := 13) (N := some 99) (v := ?_) (a' := ?_) #[true, true, true, true, true, true, true, true, false, true, true, true, true, true, false, false] rfl rfl (by kernel_rfl) (fun _ _ _ h => h) (Or.inl ⟨by rfl, ?_⟩) ?_ ?_
            rotate_left
            · intro w'
              go_simp
              with_reducible rfl
            rotate_left
            · simp only [Act.put, List.setIfInBounds_toArray, List.set_cons_zero, List.set_cons_succ]
              rfl
            refine one_ (i := 8) (N := some 94) #[true, true, true, true, true, true, true, true, true, true, true, true, true, true, false, false] rfl rfl (by kernel_rfl) (by decide) (fun K hK => ?_)
            refine goes_ Try.func19 (by kernel_rfl) rfl #[.pointer (some ⟨w1.heap.size, 0, none⟩)] (by rfl) rfl rfl (by (try simp only [List.map_toArray, List.map_cons, List.map_nil]); first | done | rfl) ?_
            refine (llen_any wD _ _ _ _ _ HPD.out.x).mono ?_
            rintro e wE ⟨rfl, rfl⟩
            refine ⟨_, rfl, ?_⟩
            refine hK.out _ _ hHeld (fun hHeld => ?_)
            clear hK K
            refine norm_ (a' := ?_) ?_ ?_
            rotate_left
            · (try unfold Act.put); simp only [Act.put, List.setIfInBounds_toArray, List.set_cons_zero, List.set_cons_succ]
              rfl
            refine pure_ (i := 14) (N := some 100) (v := .bool false) (a' := ?_) #[true, true, true, true, true, true, true, true, true, true, true, true, true, true, true, false] rfl rfl (by kernel_rfl) (fun _ _ _ h => h) (Or.inl ⟨by rfl, ?_⟩) ?_ ?_
            · intro w'
              have hbb : (((b ++ packP B).length : Int) != ((b ++ packP B).length : Int)) = false := by simp
              go_simp
            rotate_left
            · simp only [Act.put, List.setIfInBounds_toArray, List.set_cons_zero, List.set_cons_succ]
              rfl
            refine pure_ (i := 15) (N := some 101) (v := ?_) (a' := ?_) #[true, true, true, true, true, true, true, true, true, true, true, true, true, true, true, true] rfl rfl (by kernel_rfl) (fun _ _ _ h => h) (Or.inl ⟨by rfl, ?_⟩) ?_ ?_
            rotate_left
            · intro w'
              go_simp
              with_reducible rfl
            rotate_left
            · simp only [Act.put, List.setIfInBounds_toArray, List.set_cons_zero, List.set_cons_succ]
              rfl
            refine done_ (by kernel_rfl) ?_
            clear HPA HPB HPC HR1 HRC HR2 hHeld cr2
            go_wp2
            go_roundw
            case rel => exact ⟨k + 1, by omega, by go_num, _, _, _, _, _, _, _, _, _, _, HPD.out, HGA.out, HBL9.out, by have := HOL.out; rw [List.length_append, packP_length]; simp; omega⟩
            case measure => simp [intOf]; omega
      by_cases w1e : way = 1
      · subst w1e
        clear w0
        have HBLX := Lib.hid (show b.length ≤ 302 * (k + 1) by have := HBL.out; omega)
        have HBLY := Lib.hid (show b.length ≤ 1000000 by have := HBL.out; omega)
        go_wp2_with fail
        refine (sure_post w2 _ _ _ _ _ HPS2.out.x).mono ?_
        rintro e w3 hP
        obtain ⟨rfl, ab3, cb3, hps3, T3, hn3⟩ := HPS2.out.stepb hP
        have HPS3 := Lib.hid hps3
        clear hP hps3 T3 hn3 f0 f1 f2
        go_wp2_with fail
        refine (rlsure_any w3 _ _ _ _ _ HPS3.out.r).mono ?_
        rintro e w4 hP
        obtain ⟨rfl, ar4, cr4, hps4, T4, hn4⟩ := HPS3.out.stepr hP
        have HP9 := Lib.hid hps4
        clear hP hps4 T4 hn4 HPS3 HPS2 HQ2 HNF2
        go_wp2
        have HBL9 := HBLX
        obtain ⟨ar9, har9⟩ : ∃ x, x = ar4 := ⟨_, rfl⟩
        obtain ⟨cr9, hcr9⟩ : ∃ x, x = cr4 := ⟨_, rfl⟩
        rw [← har9, ← hcr9] at HP9
        clear har9 hcr9
        have HPA := Lib.hid (show PL w1 w4.drew _ _ _ _ _ _ _ _ _ (b) _ (b) _ _ _ from HP9.out.keep (Turns.drew (Turns.refl (fun _ => False) _)) (fun _ h => h.elim))
        have cr2 : w4.drew.cell? ⟨w1.heap.size + 1 + 1, 0, none⟩ = some (.slice ar9 (b).length cr9) := by have := cell_of_blk (i := 0) HP9.out.r.blk; simpa using this
        have hlen9 : (b).length ≤ 1000000 := HBLY.out
        have HBB := Lib.hid (allP_bytes (b) HP9.out.x.bytes)
        clear HP9
        refine start_ (n := 16) (S := fun w' => w'.cell? ⟨w1.heap.size + 1 + 1, 0, none⟩ = some (.slice ar9 (b).length cr9)) (ds := []) #[false, false, false, false, false, false, false, false, false, false, false, false, false, false, false, false] (by kernel_rfl) rfl rfl (cr2) (fun hHeld => ?_)
        generalize w4.drew = wA at *
        refine pure_ (i := 0) (N := some 86) (v := ?_) (a' := ?_) #[true, false, false, false, false, false, false, false, false, false, false, false, false, false, false, false] rfl rfl (by kernel_rfl) (fun _ _ _ h => h) (Or.inl ⟨by rfl, ?_⟩) ?_ ?_
        rotate_left
        · intro w'
          go_simp
          with_reducible rfl
        rotate_left
        · simp only [Act.put, List.setIfInBounds_toArray, List.set_cons_zero, List.set_cons_succ]
          rfl
        refine pure_ (i := 2) (N := some 88) (v := ?_) (a' := ?_) #[true, false, true, false, false, false, false, false, false, false, false, false, false, false, false, false] rfl rfl (by kernel_rfl) (fun _ _ _ h => h) (Or.inl ⟨by rfl, ?_⟩) ?_ ?_
        rotate_left
        · intro w'
          go_simp
          with_reducible rfl
        rotate_left
        · simp only [Act.put, List.setIfInBounds_toArray, List.set_cons_zero, List.set_cons_succ]
          rfl
        refine one_ (i := 1) (N := some 87) #[true, true, true, false, false, false, false, false, false, false, false, false, false, false, false, false] rfl rfl (by kernel_rfl) (by decide) (fun K hK => ?_)
        refine goes_ Try.func20 (by kernel_rfl) rfl #[.pointer (some ⟨w1.heap.size, 0, none⟩)] (by rfl) rfl rfl (by (try simp only [List.map_toArray, List.map_cons, List.map_nil]); first | done | rfl) ?_
        refine (all_any wA _ _ _ _ _ HPA.out.x (by omega)).mono ?_
        rintro e wB ⟨v1, rfl, hr1, hb1⟩
        obtain ⟨ad1, cap1, rfl⟩ := hr1.shape
        have HPB := Lib.hid (HPA.out.later hb1)
        have HR1 := Lib.hid hr1
        have HZ1 := Lib.hid hb1.size
        clear hr1 hb1
        refine ⟨_, rfl, ?_⟩
        refine hK.out _ _ (by have := cell_of_blk (i := 0) HPB.out.r.blk; simpa using this) (fun hHeld => ?_)
        clear hK K
        refine norm_ (a' := ?_) ?_ ?_
        rotate_left
        · (try unfold Act.put); simp only [Act.put, List.setIfInBounds_toArray, List.set_cons_zero, List.set_cons_succ]
          rfl
        refine one_ (i := 3) (N := some 89) #[true, true, true, true, false, false, false, false, false, false, false, false, false, false, false, false] rfl rfl (by kernel_rfl) (by decide) (fun K hK => ?_)
        refine goes_ Try.func34 (by kernel_rfl) rfl #[.pointer (some ⟨w1.heap.size + 1 + 1, 0, none⟩)] (by rfl) rfl rfl (by (try simp only [List.map_toArray, List.map_cons, List.map_nil]); first | done | rfl) ?_
        refine (rall_any wB _ _ _ _ _ HPB.out.r (by omega)).mono ?_
        rintro e wC ⟨v2, rfl, hr2, hb2⟩
        obtain ⟨ad2, cap2, rfl⟩ := hr2.shape
        have HPC := Lib.hid (HPB.out.later hb2)
        have HRC := Lib.hid (HR1.out.belowB hb2)
        have HR2 := Lib.hid hr2
        clear hr2 hb2
        refine ⟨_, rfl, ?_⟩
        refine hK.out _ _ (by have := cell_of_blk (i := 0) HPC.out.r.blk; simpa using this) (fun hHeld => ?_)
        clear hK K
        refine norm_ (a' := ?_) ?_ ?_
        rotate_left
        · (try unfold Act.put); simp only [Act.put, List.setIfInBounds_toArray, List.set_cons_zero, List.set_cons_succ]
          rfl
        refine one_ (i := 4) (N := some 90) #[true, true, true, true, true, false, false, false, false, false, false, false, false, false, false, false] rfl rfl (by kernel_rfl) (by decide) (fun K hK => ?_)
        refine goes_ Try.func33 (by kernel_rfl) rfl #[.slice ad1 (allP (b)).length cap1, .slice ad2 (allP (b)).length cap2] (by rfl) rfl rfl (by (try simp only [List.map_toArray, List.map_cons, List.map_nil]); first | done | rfl) ?_
        refine (same_any wC ad1 ad2 _ _ cap1 cap2 (allP (b)) (allP (b)) HRC.out.rd HR2.out.rd rfl rfl (by have := allP_len (b); omega) (by have := allP_len (b); omega) (fun x hx => ⟨(HBB.out x hx).1, by have := (HBB.out x hx).2; omega⟩) (fun x hx => ⟨(HBB.out x hx).1, by have := (HBB.out x hx).2; omega⟩)).mono ?_
        rw [show decide (allP (b) = allP (b)) = true from by simp]
        rintro e wD ⟨rfl, hb3⟩
        have HPD := Lib.hid (HPC.out.later hb3)
        clear hb3
        refine ⟨_, rfl, ?_⟩
        refine hK.out _ _ (by have := cell_of_blk (i := 0) HPD.out.r.blk; simpa using this) (fun hHeld => ?_)
        clear hK K
        refine norm_ (a' := ?_) ?_ ?_
        rotate_left
        · (try unfold Act.put); simp only [Act.put, List.setIfInBounds_toArray, List.set_cons_zero, List.set_cons_succ]
          rfl
        refine pure_ (i := 5) (N := some 91) (v := ?_) (a' := ?_) #[true, true, true, true, true, true, false, false, false, false, false, false, false, false, false, false] rfl rfl (by kernel_rfl) (fun _ _ _ h => h) (Or.inl ⟨by rfl, ?_⟩) ?_ ?_
        rotate_left
        · intro w'
          go_simp
          with_reducible rfl
        rotate_left
        · simp only [Act.put, List.setIfInBounds_toArray, List.set_cons_zero, List.set_cons_succ]
          rfl
        refine pure_ (i := 6) (N := some 92) (v := ?_) (a' := ?_) #[true, true, true, true, true, true, true, false, false, false, false, false, false, false, false, false] rfl rfl (by kernel_rfl) (fun _ _ _ h => h) (Or.inl ⟨by rfl, ?_⟩) ?_ ?_
        rotate_left
        · intro w'
          go_simp
          with_reducible rfl
        rotate_left
        · simp only [Act.put, List.setIfInBounds_toArray, List.set_cons_zero, List.set_cons_succ]
          rfl
        refine pure_ (i := 7) (N := some 93) (v := ?_) (a' := ?_) #[true, true, true, true, true, true, true, true, false, false, false, false, false, false, false, false] rfl rfl (by kernel_rfl) (fun _ _ _ h => h) (Or.inl ⟨by rfl, ?_⟩) ?_ ?_
        rotate_left
        · intro w'
          go_simp
          with_reducible rfl
        rotate_left
        · simp only [Act.put, List.setIfInBounds_toArray, List.set_cons_zero, List.set_cons_succ]
          rfl
        refine pure_ (i := 9) (N := some 95) (v := ?_) (a' := ?_) #[true, true, true, true, true, true, true, true, false, true, false, false, false, false, false, false] rfl rfl (by kernel_rfl) (fun _ _ _ h => h) (Or.inl ⟨by rfl, ?_⟩) ?_ ?_
        rotate_left
        · intro w'
          go_simp
          with_reducible rfl
        rotate_left
        · simp only [Act.put, List.setIfInBounds_toArray, List.set_cons_zero, List.set_cons_succ]
          rfl
        refine pure_ (i := 10) (N := some 96) (v := ?_) (a' := ?_) #[true, true, true, true, true, true, true, true, false, true, true, false, false, false, false, false] rfl rfl (by kernel_rfl) (fun _ _ _ h => h) (Or.inl ⟨by rfl, ?_⟩) ?_ ?_
        rotate_left
        · intro w'
          go_simp
          with_reducible rfl
        rotate_left
        · simp only [Act.put, List.setIfInBounds_toArray, List.set_cons_zero, List.set_cons_succ]
          rfl
        refine pure_ (i := 11) (N := some 97) (v := ?_) (a' := ?_) #[true, true, true, true, true, true, true, true, false, true, true, true, false, false, false, false] rfl rfl (by kernel_rfl) (fun _ _ _ h => h) (Or.inl ⟨by rfl, ?_⟩) ?_ ?_
        rotate_left
        · intro w'
          go_simp
          with_reducible rfl
        rotate_left
        · simp only [Act.put, List.setIfInBounds_toArray, List.set_cons_zero, List.set_cons_succ]
          rfl
        refine take_ (i := 12) (N := some 98) (v := ?_) (a' := ?_) #[true, true, true, true, true, true, true, true, false, true, true, true, true, false, false, false] rfl rfl (by kernel_rfl) (fun _ _ _ h => h) (Or.inl ⟨by rfl, ?_⟩) hHeld ?_ ?_
        rotate_left
        · intro w' hSw
          (try dsimp only at hSw)
          go_simp
          with_reducible rfl
        rotate_left
        · simp only [Act.put, List.setIfInBounds_toArray, List.set_cons_zero, List.set_cons_succ]
          rfl
        refine pure_ (i := 13) (N := some 99) (v := ?_) (a' := ?_) #[true, true, true, true, true, true, true, true, false, true, true, true, true, true, false, false] rfl rfl (by kernel_rfl) (fun _ _ _ h => h) (Or.inl ⟨by rfl, ?_⟩) ?_ ?_
        rotate_left
        · intro w'
          go_simp
          with_reducible rfl
        rotate_left
        · simp only [Act.put, List.setIfInBounds_toArray, List.set_cons_zero, List.set_cons_succ]
          rfl
        refine one_ (i := 8) (N := some 94) #[true, true, true, true, true, true, true, true, true, true, true, true, true, true, false, false] rfl rfl (by kernel_rfl) (by decide) (fun K hK => ?_)
        refine goes_ Try.func19 (by kernel_rfl) rfl #[.pointer (some ⟨w1.heap.size, 0, none⟩)] (by rfl) rfl rfl (by (try simp only [List.map_toArray, List.map_cons, List.map_nil]); first | done | rfl) ?_
        refine (llen_any wD _ _ _ _ _ HPD.out.x).mono ?_
        rintro e wE ⟨rfl, rfl⟩
        refine ⟨_, rfl, ?_⟩
        refine hK.out _ _ hHeld (fun hHeld => ?_)
        clear hK K
        refine norm_ (a' := ?_) ?_ ?_
        rotate_left
        · (try unfold Act.put); simp only [Act.put, List.setIfInBounds_toArray, List.set_cons_zero, List.set_cons_succ]
          rfl
        refine pure_ (i := 14) (N := some 100) (v := .bool false) (a' := ?_) #[true, true, true, true, true, true, true, true, true, true, true, true, true, true, true, false] rfl rfl (by kernel_rfl) (fun _ _ _ h => h) (Or.inl ⟨by rfl, ?_⟩) ?_ ?_
        · intro w'
          have hbb : (((b).length : Int) != ((b).length : Int)) = false := by simp
          go_simp
        rotate_left
        · simp only [Act.put, List.setIfInBounds_toArray, List.set_cons_zero, List.set_cons_succ]
          rfl
        refine pure_ (i := 15) (N := some 101) (v := ?_) (a' := ?_) #[true, true, true, true, true, true, true, true, true, true, true, true, true, true, true, true] rfl rfl (by kernel_rfl) (fun _ _ _ h => h) (Or.inl ⟨by rfl, ?_⟩) ?_ ?_
        rotate_left
        · intro w'
          go_simp
          with_reducible rfl
        rotate_left
        · simp only [Act.put, List.setIfInBounds_toArray, List.set_cons_zero, List.set_cons_succ]
          rfl
        refine done_ (by kernel_rfl) ?_
        clear HPA HPB HPC HR1 HRC HR2 hHeld cr2
        go_wp2
        go_roundw
        case rel => exact ⟨k + 1, by omega, by go_num, _, _, _, _, _, _, _, _, _, _, HPD.out, HGD.out.sure, HBL9.out, by have := HOL.out; rw [List.length_append, packP_length]; simp; omega⟩
        case measure => simp [intOf]; omega
      by_cases w2e : way = 2
      · subst w2e
        clear w0 w1e
        have hcl : (b.take (crashN b sb nn)).length ≤ b.length := by rw [List.length_take]; omega
        have HBLX := Lib.hid (show (b.take (crashN b sb nn)).length ≤ 302 * (k + 1) by have := HBL.out; omega)
        have HBLY := Lib.hid (show (b.take (crashN b sb nn)).length ≤ 1000000 by have := HBL.out; omega)
        have HRE := Lib.hid (HGD.out.rcrash nn)
        have HGE := Lib.hid (HGD.out.crash nn)
        have hle := HGD.out.le
        have hb9 : b.length ≤ 1000000000 := by have := HBL.out; omega
        have HLE := Lib.hid hle
        clear hcl hle
        go_wp2_with fail
        refine (crash_post w2 _ _ _ _ sb nn HPS2.out.x HLE.out hb9).mono ?_
        rintro e w3 hP
        obtain ⟨rfl, ab3, cb3, hps3, T3, hn3⟩ := HPS2.out.stepb hP
        have HPS3 := Lib.hid hps3
        have hq3 := T3.keep HQ2.out (fun h => h HNF2.out)
        have f1' := cell_of_blk (i := 1) hq3
        simp at f1'
        clear hP hps3 T3 hn3 f0 f1 f2 hq3
        go_wp2_with fail
        have hrc := rlcrash_any w3 _ _ _ b sb nn HPS3.out.r HLE.out hb9
        rw [HRE.out] at hrc
        refine hrc.mono ?_
        rintro e w4 hP
        obtain ⟨rfl, ar4, cr4, hps4, T4, hn4⟩ := HPS3.out.stepr hP
        have HP9 := Lib.hid hps4
        clear hP hps4 T4 hn4 HPS3 HPS2 HQ2 HNF2 hrc f1'
        go_wp2
        have HBL9 := HBLX
        obtain ⟨ar9, har9⟩ : ∃ x, x = ar4 := ⟨_, rfl⟩
        obtain ⟨cr9, hcr9⟩ : ∃ x, x = cr4 := ⟨_, rfl⟩
        rw [← har9, ← hcr9] at HP9
        clear har9 hcr9
        have HPA := Lib.hid (show PL w1 w4.drew _ _ _ _ _ _ _ _ _ (b.take (crashN b sb nn)) _ (b.take (crashN b sb nn)) _ _ _ from HP9.out.keep (Turns.drew (Turns.refl (fun _ => False) _)) (fun _ h => h.elim))
        have cr2 : w4.drew.cell? ⟨w1.heap.size + 1 + 1, 0, none⟩ = some (.slice ar9 (b.take (crashN b sb nn)).length cr9) := by have := cell_of_blk (i := 0) HP9.out.r.blk; simpa using this
        have hlen9 : (b.take (crashN b sb nn)).length ≤ 1000000 := HBLY.out
        have HBB := Lib.hid (allP_bytes (b.take (crashN b sb nn)) HP9.out.x.bytes)
        clear HP9
        refine start_ (n := 16) (S := fun w' => w'.cell? ⟨w1.heap.size + 1 + 1, 0, none⟩ = some (.slice ar9 (b.take (crashN b sb nn)).length cr9)) (ds := []) #[false, false, false, false, false, false, false, false, false, false, false, false, false, false, false, false] (by kernel_rfl) rfl rfl (cr2) (fun hHeld => ?_)
        generalize w4.drew = wA at *
        refine pure_ (i := 0) (N := some 86) (v := ?_) (a' := ?_) #[true, false, false, false, false, false, false, false, false, false, false, false, false, false, false, false] rfl rfl (by kernel_rfl) (fun _ _ _ h => h) (Or.inl ⟨by rfl, ?_⟩) ?_ ?_
        rotate_left
        · intro w'
          go_simp
          with_reducible rfl
        rotate_left
        · simp only [Act.put, List.setIfInBounds_toArray, List.set_cons_zero, List.set_cons_succ]
          rfl
        refine pure_ (i := 2) (N := some 88) (v := ?_) (a' := ?_) #[true, false, true, false, false, false, false, false, false, false, false, false, false, false, false, false] rfl rfl (by kernel_rfl) (fun _ _ _ h => h) (Or.inl ⟨by rfl, ?_⟩) ?_ ?_
        rotate_left
        · intro w'
          go_simp
          with_reducible rfl
        rotate_left
        · simp only [Act.put, List.setIfInBounds_toArray, List.set_cons_zero, List.set_cons_succ]
          rfl
        refine one_ (i := 1) (N := some 87) #[true, true, true, false, false, false, false, false, false, false, false, false, false, false, false, false] rfl rfl (by kernel_rfl) (by decide) (fun K hK => ?_)
        refine goes_ Try.func20 (by kernel_rfl) rfl #[.pointer (some ⟨w1.heap.size, 0, none⟩)] (by rfl) rfl rfl (by (try simp only [List.map_toArray, List.map_cons, List.map_nil]); first | done | rfl) ?_
        refine (all_any wA _ _ _ _ _ HPA.out.x (by omega)).mono ?_
        rintro e wB ⟨v1, rfl, hr1, hb1⟩
        obtain ⟨ad1, cap1, rfl⟩ := hr1.shape
        have HPB := Lib.hid (HPA.out.later hb1)
        have HR1 := Lib.hid hr1
        have HZ1 := Lib.hid hb1.size
        clear hr1 hb1
        refine ⟨_, rfl, ?_⟩
        refine hK.out _ _ (by have := cell_of_blk (i := 0) HPB.out.r.blk; simpa using this) (fun hHeld => ?_)
        clear hK K
        refine norm_ (a' := ?_) ?_ ?_
        rotate_left
        · (try unfold Act.put); simp only [Act.put, List.setIfInBounds_toArray, List.set_cons_zero, List.set_cons_succ]
          rfl
        refine one_ (i := 3) (N := some 89) #[true, true, true, true, false, false, false, false, false, false, false, false, false, false, false, false] rfl rfl (by kernel_rfl) (by decide) (fun K hK => ?_)
        refine goes_ Try.func34 (by kernel_rfl) rfl #[.pointer (some ⟨w1.heap.size + 1 + 1, 0, none⟩)] (by rfl) rfl rfl (by (try simp only [List.map_toArray, List.map_cons, List.map_nil]); first | done | rfl) ?_
        refine (rall_any wB _ _ _ _ _ HPB.out.r (by omega)).mono ?_
        rintro e wC ⟨v2, rfl, hr2, hb2⟩
        obtain ⟨ad2, cap2, rfl⟩ := hr2.shape
        have HPC := Lib.hid (HPB.out.later hb2)
        have HRC := Lib.hid (HR1.out.belowB hb2)
        have HR2 := Lib.hid hr2
        clear hr2 hb2
        refine ⟨_, rfl, ?_⟩
        refine hK.out _ _ (by have := cell_of_blk (i := 0) HPC.out.r.blk; simpa using this) (fun hHeld => ?_)
        clear hK K
        refine norm_ (a' := ?_) ?_ ?_
        rotate_left
        · (try unfold Act.put); simp only [Act.put, List.setIfInBounds_toArray, List.set_cons_zero, List.set_cons_succ]
          rfl
        refine one_ (i := 4) (N := some 90) #[true, true, true, true, true, false, false, false, false, false, false, false, false, false, false, false] rfl rfl (by kernel_rfl) (by decide) (fun K hK => ?_)
        refine goes_ Try.func33 (by kernel_rfl) rfl #[.slice ad1 (allP (b.take (crashN b sb nn))).length cap1, .slice ad2 (allP (b.take (crashN b sb nn))).length cap2] (by rfl) rfl rfl (by (try simp only [List.map_toArray, List.map_cons, List.map_nil]); first | done | rfl) ?_
        refine (same_any wC ad1 ad2 _ _ cap1 cap2 (allP (b.take (crashN b sb nn))) (allP (b.take (crashN b sb nn))) HRC.out.rd HR2.out.rd rfl rfl (by have := allP_len (b.take (crashN b sb nn)); omega) (by have := allP_len (b.take (crashN b sb nn)); omega) (fun x hx => ⟨(HBB.out x hx).1, by have := (HBB.out x hx).2; omega⟩) (fun x hx => ⟨(HBB.out x hx).1, by have := (HBB.out x hx).2; omega⟩)).mono ?_
        rw [show decide (allP (b.take (crashN b sb nn)) = allP (b.take (crashN b sb nn))) = true from by simp]
        rintro e wD ⟨rfl, hb3⟩
        have HPD := Lib.hid (HPC.out.later hb3)
        clear hb3
        refine ⟨_, rfl, ?_⟩
        refine hK.out _ _ (by have := cell_of_blk (i := 0) HPD.out.r.blk; simpa using this) (fun hHeld => ?_)
        clear hK K
        refine norm_ (a' := ?_) ?_ ?_
        rotate_left
        · (try unfold Act.put); simp only [Act.put, List.setIfInBounds_toArray, List.set_cons_zero, List.set_cons_succ]
          rfl
        refine pure_ (i := 5) (N := some 91) (v := ?_) (a' := ?_) #[true, true, true, true, true, true, false, false, false, false, false, false, false, false, false, false] rfl rfl (by kernel_rfl) (fun _ _ _ h => h) (Or.inl ⟨by rfl, ?_⟩) ?_ ?_
        rotate_left
        · intro w'
          go_simp
          with_reducible rfl
        rotate_left
        · simp only [Act.put, List.setIfInBounds_toArray, List.set_cons_zero, List.set_cons_succ]
          rfl
        refine pure_ (i := 6) (N := some 92) (v := ?_) (a' := ?_) #[true, true, true, true, true, true, true, false, false, false, false, false, false, false, false, false] rfl rfl (by kernel_rfl) (fun _ _ _ h => h) (Or.inl ⟨by rfl, ?_⟩) ?_ ?_
        rotate_left
        · intro w'
          go_simp
          with_reducible rfl
        rotate_left
        · simp only [Act.put, List.setIfInBounds_toArray, List.set_cons_zero, List.set_cons_succ]
          rfl
        refine pure_ (i := 7) (N := some 93) (v := ?_) (a' := ?_) #[true, true, true, true, true, true, true, true, false, false, false, false, false, false, false, false] rfl rfl (by kernel_rfl) (fun _ _ _ h => h) (Or.inl ⟨by rfl, ?_⟩) ?_ ?_
        rotate_left
        · intro w'
          go_simp
          with_reducible rfl
        rotate_left
        · simp only [Act.put, List.setIfInBounds_toArray, List.set_cons_zero, List.set_cons_succ]
          rfl
        refine pure_ (i := 9) (N := some 95) (v := ?_) (a' := ?_) #[true, true, true, true, true, true, true, true, false, true, false, false, false, false, false, false] rfl rfl (by kernel_rfl) (fun _ _ _ h => h) (Or.inl ⟨by rfl, ?_⟩) ?_ ?_
        rotate_left
        · intro w'
          go_simp
          with_reducible rfl
        rotate_left
        · simp only [Act.put, List.setIfInBounds_toArray, List.set_cons_zero, List.set_cons_succ]
          rfl
        refine pure_ (i := 10) (N := some 96) (v := ?_) (a' := ?_) #[true, true, true, true, true, true, true, true, false, true, true, false, false, false, false, false] rfl rfl (by kernel_rfl) (fun _ _ _ h => h) (Or.inl ⟨by rfl, ?_⟩) ?_ ?_
        rotate_left
        · intro w'
          go_simp
          with_reducible rfl
        rotate_left
        · simp only [Act.put, List.setIfInBounds_toArray, List.set_cons_zero, List.set_cons_succ]
          rfl
        refine pure_ (i := 11) (N := some 97) (v := ?_) (a' := ?_) #[true, true, true, true, true, true, true, true, false, true, true, true, false, false, false, false] rfl rfl (by kernel_rfl) (fun _ _ _ h => h) (Or.inl ⟨by rfl, ?_⟩) ?_ ?_
        rotate_left
        · intro w'
          go_simp
          with_reducible rfl
        rotate_left
        · simp only [Act.put, List.setIfInBounds_toArray, List.set_cons_zero, List.set_cons_succ]
          rfl
        refine take_ (i := 12) (N := some 98) (v := ?_) (a' := ?_) #[true, true, true, true, true, true, true, true, false, true, true, true, true, false, false, false] rfl rfl (by kernel_rfl) (fun _ _ _ h => h) (Or.inl ⟨by rfl, ?_⟩) hHeld ?_ ?_
        rotate_left
        · intro w' hSw
          (try dsimp only at hSw)
          go_simp
          with_reducible rfl
        rotate_left
        · simp only [Act.put, List.setIfInBounds_toArray, List.set_cons_zero, List.set_cons_succ]
          rfl
        refine pure_ (i := 13) (N := some 99) (v := ?_) (a' := ?_) #[true, true, true, true, true, true, true, true, false, true, true, true, true, true, false, false] rfl rfl (by kernel_rfl) (fun _ _ _ h => h) (Or.inl ⟨by rfl, ?_⟩) ?_ ?_
        rotate_left
        · intro w'
          go_simp
          with_reducible rfl
        rotate_left
        · simp only [Act.put, List.setIfInBounds_toArray, List.set_cons_zero, List.set_cons_succ]
          rfl
        refine one_ (i := 8) (N := some 94) #[true, true, true, true, true, true, true, true, true, true, true, true, true, true, false, false] rfl rfl (by kernel_rfl) (by decide) (fun K hK => ?_)
        refine goes_ Try.func19 (by kernel_rfl) rfl #[.pointer (some ⟨w1.heap.size, 0, none⟩)] (by rfl) rfl rfl (by (try simp only [List.map_toArray, List.map_cons, List.map_nil]); first | done | rfl) ?_
        refine (llen_any wD _ _ _ _ _ HPD.out.x).mono ?_
        rintro e wE ⟨rfl, rfl⟩
        refine ⟨_, rfl, ?_⟩
        refine hK.out _ _ hHeld (fun hHeld => ?_)
        clear hK K
        refine norm_ (a' := ?_) ?_ ?_
        rotate_left
        · (try unfold Act.put); simp only [Act.put, List.setIfInBounds_toArray, List.set_cons_zero, List.set_cons_succ]
          rfl
        refine pure_ (i := 14) (N := some 100) (v := .bool false) (a' := ?_) #[true, true, true, true, true, true, true, true, true, true, true, true, true, true, true, false] rfl rfl (by kernel_rfl) (fun _ _ _ h => h) (Or.inl ⟨by rfl, ?_⟩) ?_ ?_
        · intro w'
          have hbb : (((b.take (crashN b sb nn)).length : Int) != ((b.take (crashN b sb nn)).length : Int)) = false := by simp
          go_simp
        rotate_left
        · simp only [Act.put, List.setIfInBounds_toArray, List.set_cons_zero, List.set_cons_succ]
          rfl
        refine pure_ (i := 15) (N := some 101) (v := ?_) (a' := ?_) #[true, true, true, true, true, true, true, true, true, true, true, true, true, true, true, true] rfl rfl (by kernel_rfl) (fun _ _ _ h => h) (Or.inl ⟨by rfl, ?_⟩) ?_ ?_
        rotate_left
        · intro w'
          go_simp
          with_reducible rfl
        rotate_left
        · simp only [Act.put, List.setIfInBounds_toArray, List.set_cons_zero, List.set_cons_succ]
          rfl
        refine done_ (by kernel_rfl) ?_
        clear HPA HPB HPC HR1 HRC HR2 hHeld cr2
        go_wp2
        go_roundw
        case rel => exact ⟨k + 1, by omega, by go_num, _, _, _, _, _, _, _, _, _, _, HPD.out, HGE.out, HBL9.out, by have := HOL.out; rw [List.length_append, packP_length]; simp; omega⟩
        case measure => simp [intOf]; omega
      have q0 : (way == 0) = false := beq_eq_false_iff_ne.2 w0
      have q1 : (way == 1) = false := beq_eq_false_iff_ne.2 w1e
      have q2 : (way == 2) = false := beq_eq_false_iff_ne.2 w2e
      go_wp2
      have HP9 := HPS2
      have HBL9 := Lib.hid (show b.length ≤ 302 * (k + 1) by have := HBL.out; omega)
      obtain ⟨ar9, har9⟩ : ∃ x, x = ar := ⟨_, rfl⟩
      obtain ⟨cr9, hcr9⟩ : ∃ x, x = cr := ⟨_, rfl⟩
      rw [← har9, ← hcr9] at HP9
      clear har9 hcr9 HPS2 HQ2 HNF2 f0 f1 f2
      have HPA := Lib.hid (show PL w1 w2.drew _ _ _ _ _ _ _ _ _ (b) _ (b) _ _ _ from HP9.out.keep (Turns.drew (Turns.refl (fun _ => False) _)) (fun _ h => h.elim))
      have cr2 : w2.drew.cell? ⟨w1.heap.size + 1 + 1, 0, none⟩ = some (.slice ar9 (b).length cr9) := by have := cell_of_blk (i := 0) HP9.out.r.blk; simpa using this
      have hlen9 : (b).length ≤ 1000000 := by have := HBL.out; omega
      have HBB := Lib.hid (allP_bytes (b) HP9.out.x.bytes)
      clear HP9
      refine start_ (n := 16) (S := fun w' => w'.cell? ⟨w1.heap.size + 1 + 1, 0, none⟩ = some (.slice ar9 (b).length cr9)) (ds := []) #[false, false, false, false, false, false, false, false, false, false, false, false, false, false, false, false] (by kernel_rfl) rfl rfl (cr2) (fun hHeld => ?_)
      generalize w2.drew = wA at *
      refine pure_ (i := 0) (N := some 86) (v := ?_) (a' := ?_) #[true, false, false, false, false, false, false, false, false, false, false, false, false, false, false, false] rfl rfl (by kernel_rfl) (fun _ _ _ h => h) (Or.inl ⟨by rfl, ?_⟩) ?_ ?_
      rotate_left
      · intro w'
        go_simp
        with_reducible rfl
      rotate_left
      · simp only [Act.put, List.setIfInBounds_toArray, List.set_cons_zero, List.set_cons_succ]
        rfl
      refine pure_ (i := 2) (N := some 88) (v := ?_) (a' := ?_) #[true, false, true, false, false, false, false, false, false, false, false, false, false, false, false, false] rfl rfl (by kernel_rfl) (fun _ _ _ h => h) (Or.inl ⟨by rfl, ?_⟩) ?_ ?_
      rotate_left
      · intro w'
        go_simp
        with_reducible rfl
      rotate_left
      · simp only [Act.put, List.setIfInBounds_toArray, List.set_cons_zero, List.set_cons_succ]
        rfl
      refine one_ (i := 1) (N := some 87) #[true, true, true, false, false, false, false, false, false, false, false, false, false, false, false, false] rfl rfl (by kernel_rfl) (by decide) (fun K hK => ?_)
      refine goes_ Try.func20 (by kernel_rfl) rfl #[.pointer (some ⟨w1.heap.size, 0, none⟩)] (by rfl) rfl rfl (by (try simp only [List.map_toArray, List.map_cons, List.map_nil]); first | done | rfl) ?_
      refine (all_any wA _ _ _ _ _ HPA.out.x (by omega)).mono ?_
      rintro e wB ⟨v1, rfl, hr1, hb1⟩
      obtain ⟨ad1, cap1, rfl⟩ := hr1.shape
      have HPB := Lib.hid (HPA.out.later hb1)
      have HR1 := Lib.hid hr1
      have HZ1 := Lib.hid hb1.size
      clear hr1 hb1
      refine ⟨_, rfl, ?_⟩
      refine hK.out _ _ (by have := cell_of_blk (i := 0) HPB.out.r.blk; simpa using this) (fun hHeld => ?_)
      clear hK K
      refine norm_ (a' := ?_) ?_ ?_
      rotate_left
      · (try unfold Act.put); simp only [Act.put, List.setIfInBounds_toArray, List.set_cons_zero, List.set_cons_succ]
        rfl
      refine one_ (i := 3) (N := some 89) #[true, true, true, true, false, false, false, false, false, false, false, false, false, false, false, false] rfl rfl (by kernel_rfl) (by decide) (fun K hK => ?_)
      refine goes_ Try.func34 (by kernel_rfl) rfl #[.pointer (some ⟨w1.heap.size + 1 + 1, 0, none⟩)] (by rfl) rfl rfl (by (try simp only [List.map_toArray, List.map_cons, List.map_nil]); first | done | rfl) ?_
      refine (rall_any wB _ _ _ _ _ HPB.out.r (by omega)).mono ?_
      rintro e wC ⟨v2, rfl, hr2, hb2⟩
      obtain ⟨ad2, cap2, rfl⟩ := hr2.shape
      have HPC := Lib.hid (HPB.out.later hb2)
      have HRC := Lib.hid (HR1.out.belowB hb2)
      have HR2 := Lib.hid hr2
      clear hr2 hb2
      refine ⟨_, rfl, ?_⟩
      refine hK.out _ _ (by have := cell_of_blk (i := 0) HPC.out.r.blk; simpa using this) (fun hHeld => ?_)
      clear hK K
      refine norm_ (a' := ?_) ?_ ?_
      rotate_left
      · (try unfold Act.put); simp only [Act.put, List.setIfInBounds_toArray, List.set_cons_zero, List.set_cons_succ]
        rfl
      refine one_ (i := 4) (N := some 90) #[true, true, true, true, true, false, false, false, false, false, false, false, false, false, false, false] rfl rfl (by kernel_rfl) (by decide) (fun K hK => ?_)
      refine goes_ Try.func33 (by kernel_rfl) rfl #[.slice ad1 (allP (b)).length cap1, .slice ad2 (allP (b)).length cap2] (by rfl) rfl rfl (by (try simp only [List.map_toArray, List.map_cons, List.map_nil]); first | done | rfl) ?_
      refine (same_any wC ad1 ad2 _ _ cap1 cap2 (allP (b)) (allP (b)) HRC.out.rd HR2.out.rd rfl rfl (by have := allP_len (b); omega) (by have := allP_len (b); omega) (fun x hx => ⟨(HBB.out x hx).1, by have := (HBB.out x hx).2; omega⟩) (fun x hx => ⟨(HBB.out x hx).1, by have := (HBB.out x hx).2; omega⟩)).mono ?_
      rw [show decide (allP (b) = allP (b)) = true from by simp]
      rintro e wD ⟨rfl, hb3⟩
      have HPD := Lib.hid (HPC.out.later hb3)
      clear hb3
      refine ⟨_, rfl, ?_⟩
      refine hK.out _ _ (by have := cell_of_blk (i := 0) HPD.out.r.blk; simpa using this) (fun hHeld => ?_)
      clear hK K
      refine norm_ (a' := ?_) ?_ ?_
      rotate_left
      · (try unfold Act.put); simp only [Act.put, List.setIfInBounds_toArray, List.set_cons_zero, List.set_cons_succ]
        rfl
      refine pure_ (i := 5) (N := some 91) (v := ?_) (a' := ?_) #[true, true, true, true, true, true, false, false, false, false, false, false, false, false, false, false] rfl rfl (by kernel_rfl) (fun _ _ _ h => h) (Or.inl ⟨by rfl, ?_⟩) ?_ ?_
      rotate_left
      · intro w'
        go_simp
        with_reducible rfl
      rotate_left
      · simp only [Act.put, List.setIfInBounds_toArray, List.set_cons_zero, List.set_cons_succ]
        rfl
      refine pure_ (i := 6) (N := some 92) (v := ?_) (a' := ?_) #[true, true, true, true, true, true, true, false, false, false, false, false, false, false, false, false] rfl rfl (by kernel_rfl) (fun _ _ _ h => h) (Or.inl ⟨by rfl, ?_⟩) ?_ ?_
      rotate_left
      · intro w'
        go_simp
        with_reducible rfl
      rotate_left
      · simp only [Act.put, List.setIfInBounds_toArray, List.set_cons_zero, List.set_cons_succ]
        rfl
      refine pure_ (i := 7) (N := some 93) (v := ?_) (a' := ?_) #[true, true, true, true, true, true, true, true, false, false, false, false, false, false, false, false] rfl rfl (by kernel_rfl) (fun _ _ _ h => h) (Or.inl ⟨by rfl, ?_⟩) ?_ ?_
      rotate_left
      · intro w'
        go_simp
        with_reducible rfl
      rotate_left
      · simp only [Act.put, List.setIfInBounds_toArray, List.set_cons_zero, List.set_cons_succ]
        rfl
      refine pure_ (i := 9) (N := some 95) (v := ?_) (a' := ?_) #[true, true, true, true, true, true, true, true, false, true, false, false, false, false, false, false] rfl rfl (by kernel_rfl) (fun _ _ _ h => h) (Or.inl ⟨by rfl, ?_⟩) ?_ ?_
      rotate_left
      · intro w'
        go_simp
        with_reducible rfl
      rotate_left
      · simp only [Act.put, List.setIfInBounds_toArray, List.set_cons_zero, List.set_cons_succ]
        rfl
      refine pure_ (i := 10) (N := some 96) (v := ?_) (a' := ?_) #[true, true, true, true, true, true, true, true, false, true, true, false, false, false, false, false] rfl rfl (by kernel_rfl) (fun _ _ _ h => h) (Or.inl ⟨by rfl, ?_⟩) ?_ ?_
      rotate_left
      · intro w'
        go_simp
        with_reducible rfl
      rotate_left
      · simp only [Act.put, List.setIfInBounds_toArray, List.set_cons_zero, List.set_cons_succ]
        rfl
      refine pure_ (i := 11) (N := some 97) (v := ?_) (a' := ?_) #[true, true, true, true, true, true, true, true, false, true, true, true, false, false, false, false] rfl rfl (by kernel_rfl) (fun _ _ _ h => h) (Or.inl ⟨by rfl, ?_⟩) ?_ ?_
      rotate_left
      · intro w'
        go_simp
        with_reducible rfl
      rotate_left
      · simp only [Act.put, List.setIfInBounds_toArray, List.set_cons_zero, List.set_cons_succ]
        rfl
      refine take_ (i := 12) (N := some 98) (v := ?_) (a' := ?_) #[true, true, true, true, true, true, true, true, false, true, true, true, true, false, false, false] rfl rfl (by kernel_rfl) (fun _ _ _ h => h) (Or.inl ⟨by rfl, ?_⟩) hHeld ?_ ?_
      rotate_left
      · intro w' hSw
        (try dsimp only at hSw)
        go_simp
        with_reducible rfl
      rotate_left
      · simp only [Act.put, List.setIfInBounds_toArray, List.set_cons_zero, List.set_cons_succ]
        rfl
      refine pure_ (i := 13) (N := some 99) (v := ?_) (a' := ?_) #[true, true, true, true, true, true, true, true, false, true, true, true, true, true, false, false] rfl rfl (by kernel_rfl) (fun _ _ _ h => h) (Or.inl ⟨by rfl, ?_⟩) ?_ ?_
      rotate_left
      · intro w'
        go_simp
        with_reducible rfl
      rotate_left
      · simp only [Act.put, List.setIfInBounds_toArray, List.set_cons_zero, List.set_cons_succ]
        rfl
      refine one_ (i := 8) (N := some 94) #[true, true, true, true, true, true, true, true, true, true, true, true, true, true, false, false] rfl rfl (by kernel_rfl) (by decide) (fun K hK => ?_)
      refine goes_ Try.func19 (by kernel_rfl) rfl #[.pointer (some ⟨w1.heap.size, 0, none⟩)] (by rfl) rfl rfl (by (try simp only [List.map_toArray, List.map_cons, List.map_nil]); first | done | rfl) ?_
      refine (llen_any wD _ _ _ _ _ HPD.out.x).mono ?_
      rintro e wE ⟨rfl, rfl⟩
      refine ⟨_, rfl, ?_⟩
      refine hK.out _ _ hHeld (fun hHeld => ?_)
      clear hK K
      refine norm_ (a' := ?_) ?_ ?_
      rotate_left
      · (try unfold Act.put); simp only [Act.put, List.setIfInBounds_toArray, List.set_cons_zero, List.set_cons_succ]
        rfl
      refine pure_ (i := 14) (N := some 100) (v := .bool false) (a' := ?_) #[true, true, true, true, true, true, true, true, true, true, true, true, true, true, true, false] rfl rfl (by kernel_rfl) (fun _ _ _ h => h) (Or.inl ⟨by rfl, ?_⟩) ?_ ?_
      · intro w'
        have hbb : (((b).length : Int) != ((b).length : Int)) = false := by simp
        go_simp
      rotate_left
      · simp only [Act.put, List.setIfInBounds_toArray, List.set_cons_zero, List.set_cons_succ]
        rfl
      refine pure_ (i := 15) (N := some 101) (v := ?_) (a' := ?_) #[true, true, true, true, true, true, true, true, true, true, true, true, true, true, true, true] rfl rfl (by kernel_rfl) (fun _ _ _ h => h) (Or.inl ⟨by rfl, ?_⟩) ?_ ?_
      rotate_left
      · intro w'
        go_simp
        with_reducible rfl
      rotate_left
      · simp only [Act.put, List.setIfInBounds_toArray, List.set_cons_zero, List.set_cons_succ]
        rfl
      refine done_ (by kernel_rfl) ?_
      clear HPA HPB HPC HR1 HRC HR2 hHeld cr2
      go_wp2
      go_roundw
      case rel => exact ⟨k + 1, by omega, by go_num, _, _, _, _, _, _, _, _, _, _, HPD.out, HGD.out, HBL9.out, by have := HOL.out; rw [List.length_append, packP_length]; simp; omega⟩
      case measure => simp [intOf]; omega
    · have hkn : k = n := by omega
      subst hkn
      go_wp2
      go_ret
      exact ⟨rfl, HB.out.trans (HPS.out.below.mono HB.out.size)⟩
end Go.Proofs.Ytddchhoplomjgaa
