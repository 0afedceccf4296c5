/- alive of place; PlaceOne: the walk. -/
import Derived.Test.YtbkcopejclcfdaaPlSame
import Derived.Test.YtbkcopejclcfdaaPlOpen
namespace Go.Proofs.Ytbkcopejclcfdaa
open Go.RowKit Go.Proofs.YtbkcopejclcfdaaW.PrintLast Go.Proofs.Ytbkcopejclcfdaa.Sum
set_option linter.unusedVariables false
set_option linter.unusedSimpArgs false
theorem keyP : Key20 z20 := ⟨z20_len, z20_bytes⟩
theorem dead3 : decide (ofL [0, 1] = ofL [0, 1, 0, 0]) = false := by decide +kernel
theorem neq34 (w : World) : (binOp .neq 23 (.agg (kv (ofL [0, 1]))) (.agg (kv (ofL [0, 1, 0, 0])))).run Try.prog w = .ok (.bool true) w := by
  rw [run_neq_key w _ _ (ofL_length _) (ofL_length _), dead3]
  rfl
theorem reads_newP {w : World} {l : List Int} : Reads (w.alloc (.cells (ints l).toArray 3)) (some ⟨w.heap.size, 0, none⟩) (ints l) := build_nums
set_option maxHeartbeats 2000000 in
set_option maxRecDepth 20000 in
theorem palive_any (W : World) : Calls Try.prog 21 #[] W fun e W' => e = .returned (.bool true) ∧ Below W.heap.size W W' := by
  have H0 := Lib.hid (peer_any W z20 keyP none 0 0 [] rfl (by decide) (Reads.nil _ _) : Calls Try.prog 23 #[.agg #[.int .u8 0, .int .u8 0, .int .u8 0, .int .u8 0, .int .u8 0, .int .u8 0, .int .u8 0, .int .u8 0, .int .u8 0, .int .u8 0, .int .u8 0, .int .u8 0, .int .u8 0, .int .u8 0, .int .u8 0, .int .u8 0, .int .u8 0, .int .u8 0, .int .u8 0, .int .u8 0], .slice none 0 0] W _)
  have H1 := Lib.hid (fun w : World => (peer_any (w.alloc (.cells #[.int .i64 4] 3)) z20 keyP (some ⟨w.heap.size, 0, none⟩) 1 1 [4] rfl (by decide) (reads_newP (l := [4])) : Calls Try.prog 23 #[.agg #[.int .u8 0, .int .u8 0, .int .u8 0, .int .u8 0, .int .u8 0, .int .u8 0, .int .u8 0, .int .u8 0, .int .u8 0, .int .u8 0, .int .u8 0, .int .u8 0, .int .u8 0, .int .u8 0, .int .u8 0, .int .u8 0, .int .u8 0, .int .u8 0, .int .u8 0, .int .u8 0], .slice (some ⟨w.heap.size, 0, none⟩) 1 1] (w.alloc (.cells #[.int .i64 4] 3)) _))
  have H2 := fun w => home_any w 0 1
  have H3 := fun w => pkey_any w 0 1 0 0
  have N := neq34
  generalize kv (ofL [0, 1]) = v1 at H2 N
  generalize kv (ofL [0, 1, 0, 0]) = v2 at H3 N
  have H2 := Lib.hid H2
  have H3 := Lib.hid H3
  go_enter Try.func21, Try.ntmps21
  go_wp2_with fail
  refine H0.out.mono ?_
  rintro e w1 ⟨rfl, hb1⟩
  have HB1 := Lib.hid hb1
  clear hb1
  go_wp2_with fail
  refine (H1.out w1).mono ?_
  rintro e w2 ⟨rfl, hb2⟩
  have HB2 := Lib.hid (HB1.out.trans ((((Below.refl w1.heap.size w1).alloc (Nat.le_refl _) (.cells #[.int .i64 4] 3)).trans (hb2.mono (by simp))).mono HB1.out.size))
  clear hb2
  rw [show minL z20 [4] = 4 from rfl]
  go_wp2_with fail
  refine (H2.out w2).mono ?_
  rintro e w3 ⟨rfl, hb3⟩
  have HB3 := Lib.hid (HB2.out.trans (hb3.mono HB2.out.size))
  clear hb3
  go_wp2_with fail
  refine (H3.out w3).mono ?_
  rintro e w4 ⟨rfl, hb4⟩
  have HB4 := Lib.hid (HB3.out.trans (hb4.mono HB3.out.size))
  clear hb4
  go_wp2
  go_ret
  exact ⟨by simp, HB4.out⟩
theorem built53_2 (peer number : Int) : Try.prog.built 53 [(0, .agg #[.int .i64 peer, .int .i64 number]), (4, .bool true)] = some #[.int .i64 peer, .int .i64 number, .int .i64 0, .int .i64 0, .int .i64 0, .int .i64 0, .int .i64 0, .bool true, .int .i64 0, .slice none 0 0] := by kernel_rfl
theorem exec_build53 {o : Oper} {a : Act} (w : World) (x : Operand) (peer number : Int) (ho : o.op = .build 53 #[(0, x), (4, .const (.bool true))]) (hx : a.eval x = .agg #[.int .i64 peer, .int .i64 number]) :
    (execOp a.eval o).run Try.prog w = .ok (.value (.agg #[.int .i64 peer, .int .i64 number, .int .i64 0, .int .i64 0, .int .i64 0, .int .i64 0, .int .i64 0, .bool true, .int .i64 0, .slice none 0 0])) w := by
  have he : a.eval (.const (.bool true)) = .bool true := rfl
  unfold execOp
  simp only [ho, Sem.run_bind, Sem.run_pure, List.map_toArray, List.map_cons, List.map_nil, hx, he, run_build w 53 #[(0, .agg #[.int .i64 peer, .int .i64 number]), (4, .bool true)] _ (built53_2 peer number), Result.andThen_ok]
theorem tgt_one (p : Int) (r : Rc) : tgt [p] r = 0 := by
  have := (tgt_idx [p] r (by simp)).2
  simp at this
  exact this
theorem tgt_two (p q : Int) (r : Rc) (hpq : p ≠ q) : (tgt [p, q] r = 0 ∧ minL (ofL r.nums) [p, q] = p) ∨ (tgt [p, q] r = 1 ∧ minL (ofL r.nums) [p, q] = q) := by
  have hm : minL (ofL r.nums) [p, q] ∈ [p, q] := minL_in _ _ (by simp)
  unfold tgt
  generalize minL (ofL r.nums) [p, q] = m at *
  simp only [List.mem_cons, List.not_mem_nil, or_false] at hm
  rcases hm with rfl | rfl
  · exact .inl ⟨by simp [List.findIdx?_cons], rfl⟩
  · refine .inr ⟨?_, rfl⟩
    have : (m == p) = false := by simpa using fun e => hpq e.symm
    simp [List.findIdx?_cons, this]
set_option maxHeartbeats 16000000 in
set_option maxRecDepth 20000 in
theorem placeOne_any (W : World) (A : Option Addr) (n cap : Nat) (xs : List Rc) (p q : Int) (hn : n = xs.length) (hl : n ≤ 9223372036854775807) (hr : Recs W A xs) :
    Calls Try.prog 8 #[.slice A n cap, .int .i64 p, .int .i64 q] W fun e W' => e = .returned (.bool true) ∧ Below W.heap.size W W' := by
  have HN := Lib.hid hn
  have HR := Lib.hid hr
  have HAL := Lib.hid (palive_any W)
  have HFW := Lib.hid (fun (w : World) (hb : Below W.heap.size W w) => few_any w A n cap xs hn hl (hr.below hb))
  have hu53 := Try.underlying53
  clear hn hr
  obtain ⟨fb, hfb⟩ : ∃ fb, fewB xs = fb := ⟨_, rfl⟩
  rw [hfb] at HFW
  have HFB := Lib.hid hfb
  clear hfb
  go_enter Try.func8, Try.ntmps8
  go_wp2_with fail
  refine HAL.out.mono ?_
  rintro e w1 ⟨rfl, hb1⟩
  have HF1 := Lib.hid (HFW.out w1 hb1)
  have HB1 := Lib.hid hb1
  clear hb1
  go_wp2_with fail
  refine HF1.out.mono ?_
  rintro e w2 ⟨rfl, hb2⟩
  have HB2 := Lib.hid (HB1.out.trans (hb2.mono HB1.out.size))
  clear hb2
  rcases Bool.eq_false_or_eq_true fb with hf | hf
  case inr =>
    subst hf
    go_wp2
    go_ret
    exact ⟨rfl, HB2.out⟩
  subst hf
  by_cases c1 : p < 0
  · go_wp2
    go_ret
    exact ⟨rfl, HB2.out⟩
  by_cases c2 : q < 0
  · go_wp2
    go_ret
    exact ⟨rfl, HB2.out⟩
  by_cases c3 : p = q
  · subst c3
    go_wp2
    go_ret
    exact ⟨rfl, HB2.out⟩
  by_cases c4 : 1073741824 < p
  · have c3' : (p == q) = false := by simpa using c3
    go_wp2
    go_ret
    exact ⟨rfl, HB2.out⟩
  by_cases c5 : 1073741824 < q
  · have c3' : (p == q) = false := by simpa using c3
    go_wp2
    go_ret
    exact ⟨rfl, HB2.out⟩
  have c3' : (p == q) = false := by simpa using c3
  have HPQ := Lib.hid c3
  obtain ⟨hx60, hx100⟩ := fewB_len HFB.out
  have hn60 : n ≤ 60 := by rw [HN.out]; exact hx60
  have HX100 := Lib.hid hx100
  have hspr := spread_any (w2.alloc (.cells #[.int .i64 p] 3)) A (some ⟨w2.heap.size, 0, none⟩) n 1 cap 1 xs [p] HN.out rfl (by omega) (by decide) (by decide) (fun r h => by have := hx100 r h; omega) ((HR.out.below HB2.out).below ((Below.refl _ _).alloc (Nat.le_refl _) _)) (reads_newP (l := [p]))
  have HSPR := Lib.hid hspr
  clear hspr hx60 hx100 c3 hl
  go_wp2_with fail
  refine HSPR.out.mono ?_
  rintro e w3 ⟨g, rows, vs, rfl, hSP, hrows⟩
  have hbw3 : Below W.heap.size W w3 := HB2.out.trans ((((Below.refl w2.heap.size w2).alloc (Nat.le_refl _) (.cells #[.int .i64 p] 3)).trans (hSP.bel.mono (by simp))).mono HB2.out.size)
  obtain ⟨ad0, cp0, hv0, hrec0⟩ := hSP.recs 0 (by simp)
  have hx0 : (rows.getD 0 []).map (·.1) = xs := by
    rw [hrows 0 (by simp)]
    exact List.filter_eq_self.2 (fun r _ => by rw [tgt_one]; rfl)
  rw [hx0] at hv0 hrec0
  have cg0 : w3.cell? ⟨g, 0, none⟩ = some (.slice ad0 n cp0) := by
    have hlv := hSP.lv
    rw [cell_of_blk hSP.blk, List.getElem?_toArray]
    rw [List.getD_eq_getElem?_getD, List.getElem?_eq_getElem (by rw [hlv]; simp)] at hv0
    rw [List.getElem?_eq_getElem (by rw [hlv]; simp), HN.out]
    exact congrArg some hv0
  have hgl := lt_of_block hSP.blk
  have HSM := Lib.hid (same31_any w3 ad0 A n cp0 cap xs HN.out (by omega) (fun r h => by have := HX100.out r h; omega) hrec0 (HR.out.below hbw3))
  have HB3 := Lib.hid hbw3
  clear hSP hrows hbw3 hv0 hrec0 hx0
  go_wp2_with fail
  refine HSM.out.mono ?_
  rintro e w4 ⟨rfl, hb4⟩
  have HB4 := Lib.hid (HB3.out.trans (hb4.mono HB3.out.size))
  clear hb4 cg0
  go_wp2
  go_loopw [9] (fun i wr => ∃ j : Nat, j ≤ n ∧ i = .int .i64 j ∧ Below W.heap.size W wr) (fun i _ => n - (intOf i).toNat)
  case atStart => exact ⟨0, Nat.zero_le _, rfl, HB4.out⟩
  case round =>
    obtain ⟨j, hj, rfl, hbel⟩ := hrel
    by_cases hlt : j < n
    · have hjx : j < xs.length := by rw [← HN.out]; exact hlt
      have i1 : (j : Int) < (n : Int) := by omega
      obtain ⟨b, off, v, rfl, hb, hcl, _⟩ := (HR.out.below hbel) j hjx
      obtain ⟨r, hr⟩ : ∃ r, xs[j] = r := ⟨_, rfl⟩
      rw [hr] at hcl
      clear hr
      obtain ⟨peer, number, s1, s2, s3, bl, es, gn, ti, dt⟩ := r
      have HG := Lib.hid (show wr.rangeAt b (off + j * 10) [.int .i64 peer, .int .i64 number] from fun j' u hu => by
        match j', hu with
        | 0, hu => cases hu; exact hcl 0 _ rfl
        | 1, hu => cases hu; exact hcl 1 _ rfl)
      obtain ⟨rr, hrr⟩ : ∃ rr : Array Value, #[.int .i64 peer, .int .i64 number, .int .i64 0, .int .i64 0, .int .i64 0, .int .i64 0, .int .i64 0, .bool true, .int .i64 0, .slice none 0 0] = rr := ⟨_, rfl⟩
      have hzr : (wr.alloc (.cells #[.int .i64 0, .int .i64 0, .int .i64 0, .int .i64 0, .int .i64 0, .int .i64 0, .int .i64 0, .bool false, .int .i64 0, .slice none 0 0] 53)).heap[wr.heap.size]? = some (.cells #[.int .i64 0, .int .i64 0, .int .i64 0, .int .i64 0, .int .i64 0, .int .i64 0, .int .i64 0, .bool false, .int .i64 0, .slice none 0 0] 53 (0, 0)) := heap_alloc_new _ _
      obtain ⟨w0, hw0⟩ : ∃ w0, (wr.alloc (.cells #[.int .i64 0, .int .i64 0, .int .i64 0, .int .i64 0, .int .i64 0, .int .i64 0, .int .i64 0, .bool false, .int .i64 0, .slice none 0 0] 53)).setRow wr.heap.size rr = w0 := ⟨_, rfl⟩
      have hb0 : Below wr.heap.size wr w0 := by rw [← hw0]; exact below_setRow ((Below.refl _ _).alloc (Nat.le_refl _) _) (Nat.le_refl _) _
      have hrow : w0.heap[wr.heap.size]? = some (.cells rr 53 (0, 0)) := by rw [← hw0]; exact setRow_heap _ _ _ _ _ _ hzr
      have HZR := Lib.hid hzr
      have HRR := Lib.hid hrr
      have hrs : (Try.prog.info? 53).map (·.size) = some rr.size := by rw [← hrr]; exact info53
      have hrz : (#[.int .i64 0, .int .i64 0, .int .i64 0, .int .i64 0, .int .i64 0, .int .i64 0, .int .i64 0, .bool false, .int .i64 0, .slice none 0 0] : Array Value).size = rr.size := by rw [← hrr]; rfl
      have hro : rr.all (·.oneCell') = true := by rw [← hrr]; kernel_rfl
      have hrt : rr.size = 10 := by rw [← hrr]; rfl
      have HEX := Lib.hid (fun (o : Oper) (a : Act) (w : World) ho hx => by have h := exec_build53 (o := o) (a := a) w (.tmp 69) peer number ho hx; rw [hrr] at h; exact h)
      have HW0 := Lib.hid hw0
      have hgw := lt_of_block hrow
      obtain ⟨w5, hw5⟩ : ∃ w5, w0.alloc (.cells rr 53) = w5 := ⟨_, rfl⟩
      have hb5 : Below w0.heap.size w0 w5 := by rw [← hw5]; exact (Below.refl _ _).alloc (Nat.le_refl _) _
      have hrow5 : w5.heap[w0.heap.size]? = some (.cells rr 53 (0, 0)) := by rw [← hw5, heap_alloc_new]
      have hrec5 : Recs w5 (some ⟨w0.heap.size, 0, none⟩) [⟨peer, number, 0, 0, 0, 0, 0, true, 0, []⟩] := fun i hi => by
        obtain rfl : i = 0 := by simp at hi; omega
        refine ⟨w0.heap.size, 0, .slice none 0 0, rfl, lt_of_block hrow5, fun j' u hu => ?_, none, 0, rfl, Reads.nil _ _, fun _ => rfl⟩
        simp only [Nat.zero_mul, Nat.zero_add]
        rw [cell_of_row w5 _ j' _ _ _ hrow5, ← hrr, List.getElem?_toArray]
        exact hu
      have hba : Below w5.heap.size w5 (w5.alloc (.cells #[.int .i64 p, .int .i64 q] 3)) := (Below.refl _ _).alloc (Nat.le_refl _) _
      have HSP := Lib.hid (spread_any (w5.alloc (.cells #[.int .i64 p, .int .i64 q] 3)) (some ⟨w0.heap.size, 0, none⟩) (some ⟨w5.heap.size, 0, none⟩) 1 2 1 2 [⟨peer, number, 0, 0, 0, 0, 0, true, 0, []⟩] [p, q] rfl rfl (by decide) (by decide) (by decide) (fun r h => by simp only [List.mem_cons, List.not_mem_nil, or_false] at h; subst h; show ([] : List Int).length ≤ 1000; decide) (hrec5.below hba) (reads_newP (l := [p, q])))
      have HBW := Lib.hid ((hbel.trans (hb0.mono hbel.size)).trans (((hb5.trans (hba.mono hb5.size)).mono (Nat.le_trans hbel.size hb0.size))))
      have hz0 : Below wr.heap.size wr (w5.alloc (.cells #[.int .i64 p, .int .i64 q] 3)) := hb0.trans ((hb5.trans (hba.mono hb5.size)).mono hb0.size)
      have hrowF : ∀ w', Below (w5.alloc (.cells #[.int .i64 p, .int .i64 q] 3)).heap.size (w5.alloc (.cells #[.int .i64 p, .int .i64 q] 3)) w' → w'.rangeAt wr.heap.size 0 [.int .i64 peer, .int .i64 number] := fun w' hb' j' u hu => by
        have h1 := hb5.trans (hba.mono hb5.size)
        have h2 := (hb'.block wr.heap.size (Nat.lt_of_lt_of_le hgw (Nat.le_trans hb5.size hba.size))).trans ((h1.block wr.heap.size hgw).trans hrow)
        rw [Nat.zero_add, cell_of_row w' _ j' _ _ _ h2, ← hrr]
        match j', hu with
        | 0, hu => cases hu; rfl
        | 1, hu => cases hu; rfl
      have HROWF := Lib.hid hrowF
      have HROW := Lib.hid hrow
      have HOME := Lib.hid (fun w => home_any w peer number)
      have hnum : (⟨peer, number, 0, 0, 0, 0, 0, true, 0, []⟩ : Rc).nums = [peer, number] := rfl
      have HTG := Lib.hid (tgt_two p q ⟨peer, number, 0, 0, 0, 0, 0, true, 0, []⟩ HPQ.out)
      rw [hnum] at HTG
      have HPE := Lib.hid (fun w : World => peer_any (w.alloc (.cells #[.int .i64 p, .int .i64 q] 3)) (ofL [peer, number]) (key_of _) (some ⟨w.heap.size, 0, none⟩) 2 2 [p, q] rfl (by decide) (reads_newP (l := [p, q])))
      obtain ⟨mn, hmn⟩ : ∃ mn, minL (ofL [peer, number]) [p, q] = mn := ⟨_, rfl⟩
      rw [hmn] at HTG HPE
      obtain ⟨key, hkey⟩ : ∃ key, ofL [peer, number] = key := ⟨_, rfl⟩
      rw [hkey] at HOME HPE
      clear hrr hw0 hzr hcl hb0 hrow hb5 hrow5 hrec5 hba hrowF hnum hmn hkey hz0 hbel
      go_wp2_with (first | (refine wpList_load_mid rfl 34 (.tmp 68) rfl b (off + j * 10) rfl [.int .i64 peer, .int .i64 number] _ HG.out Try.underlying34 rfl info34 ?_) | (refine wpList_exec _ rfl (HEX.out _ _ _ rfl rfl) ?_) | (refine wpList_store_row rfl 53 (.tmp 10) (.tmp 70) rfl wr.heap.size rfl rr rfl 53 #[.int .i64 0, .int .i64 0, .int .i64 0, .int .i64 0, .int .i64 0, .int .i64 0, .int .i64 0, .bool false, .int .i64 0, .slice none 0 0] HZR.out hrs hrz hro ?_; rw [HW0.out]) | (refine wpList_load_row rfl 53 (.tmp 10) rfl wr.heap.size rfl 53 rr (0, 0) _ HROW.out hu53 rfl hrs ?_) | (refine wpList_exec _ rfl (exec_buildOne _ 35 (.tmp 71) rfl 53 10 _ rr rfl Try.underlying35 info53 (zero53 _) hrt (by decide) (by decide)) ?_))
      refine HSP.out.mono ?_
      rintro e w6 ⟨g2, rows2, vs2, rfl, hSP2, hrows2⟩
      have HRG6 := Lib.hid (HROWF.out w6 hSP2.bel)
      have hbw6 : Below W.heap.size W w6 := HBW.out.trans (hSP2.bel.mono HBW.out.size)
      have cellG : ∀ i, i < 2 → ∃ ad cp, w6.cell? ⟨g2, i, none⟩ = some (.slice ad (([⟨peer, number, 0, 0, 0, 0, 0, true, 0, []⟩] : List Rc).filter (fun r => tgt [p, q] r == i)).length cp) := fun i hi => by
        obtain ⟨ad, cp, hv, _⟩ := hSP2.recs i hi
        rw [hrows2 i hi] at hv
        have hlv := hSP2.lv
        refine ⟨ad, cp, ?_⟩
        rw [cell_of_blk hSP2.blk, List.getElem?_toArray]
        rw [List.getD_eq_getElem?_getD, List.getElem?_eq_getElem (by rw [hlv]; exact hi)] at hv
        rw [List.getElem?_eq_getElem (by rw [hlv]; exact hi)]
        exact congrArg some hv
      have hg2l := lt_of_block hSP2.blk
      obtain ⟨adA, cpA, cA⟩ := cellG 0 (by decide)
      obtain ⟨adB, cpB, cB⟩ := cellG 1 (by decide)
      have HB6 := Lib.hid hbw6
      have HCA := Lib.hid cA
      have HCB := Lib.hid cB
      clear hSP2 hrows2 hbw6 cellG cA cB
      go_wp2_with (refine wpList_load_mid rfl 34 (.tmp 78) rfl wr.heap.size 0 rfl [.int .i64 peer, .int .i64 number] _ HRG6.out Try.underlying34 rfl info34 ?_)
      refine (HOME.out w6).mono ?_
      rintro e w6b ⟨rfl, hb6⟩
      have HB6b := Lib.hid hb6
      clear hb6
      go_wp2_with fail
      refine (HPE.out w6b).mono ?_
      rintro e w7 ⟨rfl, hb7⟩
      have hb67 : Below w6.heap.size w6 w7 := HB6b.out.trans ((((Below.refl w6b.heap.size w6b).alloc (Nat.le_refl _) (.cells #[.int .i64 p, .int .i64 q] 3)).trans (hb7.mono (by simp))).mono HB6b.out.size)
      have cA : w7.drew.cell? ⟨g2, 0, none⟩ = _ := (hb67.cell (p := ⟨g2, 0, none⟩) hg2l).trans HCA.out
      have cB : w7.drew.cell? ⟨g2, 1, none⟩ = _ := (hb67.cell (p := ⟨g2, 1, none⟩) hg2l).trans HCB.out
      have HB7 := Lib.hid (Below.drew (HB6.out.trans (hb67.mono HB6.out.size)))
      rcases HTG.out with ⟨ht, hm⟩ | ⟨ht, hm⟩
      · rw [show (([⟨peer, number, 0, 0, 0, 0, 0, true, 0, []⟩] : List Rc).filter (fun r => tgt [p, q] r == 0)).length = 1 by rw [List.filter_cons_of_pos (by rw [ht]; rfl)]; rfl] at cA
        rw [show (([⟨peer, number, 0, 0, 0, 0, 0, true, 0, []⟩] : List Rc).filter (fun r => tgt [p, q] r == 1)).length = 0 by rw [List.filter_cons_of_neg (by rw [ht]; decide)]; rfl] at cB
        have HA := Lib.hid cA
        have HBc := Lib.hid cB
        clear cA cB hb7 hb67 ht
        rw [hm]
        clear hm HTG HPE
        go_wp2
        have cA := HA.out
        have cB := HBc.out
        refine start_ (n := 30) (S := fun w' => w' = w7.drew) (ds := []) #[false, false, false, false, false, false, false, false, false, false, false, false, false, false, false, false, false, false, false, false, false, false, false, false, false, false, false, false, false, false] (by kernel_rfl) rfl rfl (rfl) (fun hHeld => ?_)
        generalize hW9 : w7.drew = W9 at *
        refine pure_ (i := 0) (N := some 87) (v := ?_) (a' := ?_) #[true, false, false, false, false, false, false, false, false, false, false, false, false, false, false, false, false, false, false, false, false, false, false, false, false, false, false, false, false, false] rfl rfl (by kernel_rfl) (fun _ _ _ h => h) (Or.inl ⟨by rfl, ?_⟩) ?_ ?_
        rotate_left
        · intro w'
          go_simp
          with_reducible rfl
        rotate_left
        · simp only [Act.put, List.setIfInBounds_toArray, List.set_cons_zero, List.set_cons_succ]
          rfl
        refine pure_ (i := 1) (N := some 88) (v := ?_) (a' := ?_) #[true, true, false, false, false, false, false, false, false, false, false, false, false, false, false, false, false, false, false, false, false, false, false, false, false, false, false, false, false, false] rfl rfl (by kernel_rfl) (fun _ _ _ h => h) (Or.inl ⟨by rfl, ?_⟩) ?_ ?_
        rotate_left
        · intro w'
          go_simp
          with_reducible rfl
        rotate_left
        · simp only [Act.put, List.setIfInBounds_toArray, List.set_cons_zero, List.set_cons_succ]
          rfl
        refine pure_ (i := 2) (N := some 89) (v := ?_) (a' := ?_) #[true, true, true, false, false, false, false, false, false, false, false, false, false, false, false, false, false, false, false, false, false, false, false, false, false, false, false, false, false, false] rfl rfl (by kernel_rfl) (fun _ _ _ h => h) (Or.inl ⟨by rfl, ?_⟩) ?_ ?_
        rotate_left
        · intro w'
          go_simp
          with_reducible rfl
        rotate_left
        · simp only [Act.put, List.setIfInBounds_toArray, List.set_cons_zero, List.set_cons_succ]
          rfl
        refine pure_ (i := 3) (N := some 90) (v := ?_) (a' := ?_) #[true, true, true, true, false, false, false, false, false, false, false, false, false, false, false, false, false, false, false, false, false, false, false, false, false, false, false, false, false, false] rfl rfl (by kernel_rfl) (fun _ _ _ h => h) (Or.inl ⟨by rfl, ?_⟩) ?_ ?_
        rotate_left
        · intro w'
          go_simp
          with_reducible rfl
        rotate_left
        · simp only [Act.put, List.setIfInBounds_toArray, List.set_cons_zero, List.set_cons_succ]
          rfl
        refine pure_ (i := 4) (N := some 91) (v := ?_) (a' := ?_) #[true, true, true, true, true, false, false, false, false, false, false, false, false, false, false, false, false, false, false, false, false, false, false, false, false, false, false, false, false, false] rfl rfl (by kernel_rfl) (fun _ _ _ h => h) (Or.inl ⟨by rfl, ?_⟩) ?_ ?_
        rotate_left
        · intro w'
          go_simp
          with_reducible rfl
        rotate_left
        · simp only [Act.put, List.setIfInBounds_toArray, List.set_cons_zero, List.set_cons_succ]
          rfl
        refine pure_ (i := 5) (N := some 92) (v := ?_) (a' := ?_) #[true, true, true, true, true, true, false, false, false, false, false, false, false, false, false, false, false, false, false, false, false, false, false, false, false, false, false, false, false, false] rfl rfl (by kernel_rfl) (fun _ _ _ h => h) (Or.inl ⟨by rfl, ?_⟩) ?_ ?_
        rotate_left
        · intro w'
          go_simp
          with_reducible rfl
        rotate_left
        · simp only [Act.put, List.setIfInBounds_toArray, List.set_cons_zero, List.set_cons_succ]
          rfl
        refine pure_ (i := 6) (N := some 93) (v := ?_) (a' := ?_) #[true, true, true, true, true, true, true, false, false, false, false, false, false, false, false, false, false, false, false, false, false, false, false, false, false, false, false, false, false, false] rfl rfl (by kernel_rfl) (fun _ _ _ h => h) (Or.inl ⟨by rfl, ?_⟩) ?_ ?_
        rotate_left
        · intro w'
          go_simp
          with_reducible rfl
        rotate_left
        · simp only [Act.put, List.setIfInBounds_toArray, List.set_cons_zero, List.set_cons_succ]
          rfl
        refine pure_ (i := 7) (N := some 94) (v := ?_) (a' := ?_) #[true, true, true, true, true, true, true, true, false, false, false, false, false, false, false, false, false, false, false, false, false, false, false, false, false, false, false, false, false, false] rfl rfl (by kernel_rfl) (fun _ _ _ h => h) (Or.inl ⟨by rfl, ?_⟩) ?_ ?_
        rotate_left
        · intro w'
          go_simp
          with_reducible rfl
        rotate_left
        · simp only [Act.put, List.setIfInBounds_toArray, List.set_cons_zero, List.set_cons_succ]
          rfl
        refine pure_ (i := 8) (N := some 95) (v := ?_) (a' := ?_) #[true, true, true, true, true, true, true, true, true, false, false, false, false, false, false, false, false, false, false, false, false, false, false, false, false, false, false, false, false, false] rfl rfl (by kernel_rfl) (fun _ _ _ h => h) (Or.inl ⟨by rfl, ?_⟩) ?_ ?_
        rotate_left
        · intro w'
          go_simp
          with_reducible rfl
        rotate_left
        · simp only [Act.put, List.setIfInBounds_toArray, List.set_cons_zero, List.set_cons_succ]
          rfl
        refine pure_ (i := 9) (N := some 96) (v := ?_) (a' := ?_) #[true, true, true, true, true, true, true, true, true, true, false, false, false, false, false, false, false, false, false, false, false, false, false, false, false, false, false, false, false, false] rfl rfl (by kernel_rfl) (fun _ _ _ h => h) (Or.inl ⟨by rfl, ?_⟩) ?_ ?_
        rotate_left
        · intro w'
          go_simp
          with_reducible rfl
        rotate_left
        · simp only [Act.put, List.setIfInBounds_toArray, List.set_cons_zero, List.set_cons_succ]
          rfl
        refine take_ (i := 10) (N := some 97) (v := ?_) (a' := ?_) #[true, true, true, true, true, true, true, true, true, true, true, false, false, false, false, false, false, false, false, false, false, false, false, false, false, false, false, false, false, false] rfl rfl (by kernel_rfl) (fun _ _ _ h => h) (Or.inl ⟨by rfl, ?_⟩) hHeld ?_ ?_
        rotate_left
        · intro w' hSw
          have hSw : w' = W9 := hSw
          subst hSw
          go_simp
          with_reducible rfl
        rotate_left
        · simp only [Act.put, List.setIfInBounds_toArray, List.set_cons_zero, List.set_cons_succ]
          rfl
        refine pure_ (i := 11) (N := some 98) (v := ?_) (a' := ?_) #[true, true, true, true, true, true, true, true, true, true, true, true, false, false, false, false, false, false, false, false, false, false, false, false, false, false, false, false, false, false] rfl rfl (by kernel_rfl) (fun _ _ _ h => h) (Or.inl ⟨by rfl, ?_⟩) ?_ ?_
        rotate_left
        · intro w'
          go_simp
          with_reducible rfl
        rotate_left
        · simp only [Act.put, List.setIfInBounds_toArray, List.set_cons_zero, List.set_cons_succ]
          rfl
        refine pure_ (i := 12) (N := some 99) (v := ?_) (a' := ?_) #[true, true, true, true, true, true, true, true, true, true, true, true, true, false, false, false, false, false, false, false, false, false, false, false, false, false, false, false, false, false] rfl rfl (by kernel_rfl) (fun _ _ _ h => h) (Or.inl ⟨by rfl, ?_⟩) ?_ ?_
        rotate_left
        · intro w'
          go_simp
          with_reducible rfl
        rotate_left
        · simp only [Act.put, List.setIfInBounds_toArray, List.set_cons_zero, List.set_cons_succ]
          rfl
        refine pure_ (i := 13) (N := some 100) (v := ?_) (a' := ?_) #[true, true, true, true, true, true, true, true, true, true, true, true, true, true, false, false, false, false, false, false, false, false, false, false, false, false, false, false, false, false] rfl rfl (by kernel_rfl) (fun _ _ _ h => h) (Or.inl ⟨by rfl, ?_⟩) ?_ ?_
        rotate_left
        · intro w'
          go_simp
          with_reducible rfl
        rotate_left
        · simp only [Act.put, List.setIfInBounds_toArray, List.set_cons_zero, List.set_cons_succ]
          rfl
        refine pure_ (i := 14) (N := some 101) (v := ?_) (a' := ?_) #[true, true, true, true, true, true, true, true, true, true, true, true, true, true, true, false, false, false, false, false, false, false, false, false, false, false, false, false, false, false] rfl rfl (by kernel_rfl) (fun _ _ _ h => h) (Or.inl ⟨by rfl, ?_⟩) ?_ ?_
        rotate_left
        · intro w'
          go_simp
          with_reducible rfl
        rotate_left
        · simp only [Act.put, List.setIfInBounds_toArray, List.set_cons_zero, List.set_cons_succ]
          rfl
        refine pure_ (i := 15) (N := some 102) (v := ?_) (a' := ?_) #[true, true, true, true, true, true, true, true, true, true, true, true, true, true, true, true, false, false, false, false, false, false, false, false, false, false, false, false, false, false] rfl rfl (by kernel_rfl) (fun _ _ _ h => h) (Or.inl ⟨by rfl, ?_⟩) ?_ ?_
        rotate_left
        · intro w'
          go_simp
          with_reducible rfl
        rotate_left
        · simp only [Act.put, List.setIfInBounds_toArray, List.set_cons_zero, List.set_cons_succ]
          rfl
        refine pure_ (i := 16) (N := some 103) (v := ?_) (a' := ?_) #[true, true, true, true, true, true, true, true, true, true, true, true, true, true, true, true, true, false, false, false, false, false, false, false, false, false, false, false, false, false] rfl rfl (by kernel_rfl) (fun _ _ _ h => h) (Or.inl ⟨by rfl, ?_⟩) ?_ ?_
        rotate_left
        · intro w'
          go_simp
          with_reducible rfl
        rotate_left
        · simp only [Act.put, List.setIfInBounds_toArray, List.set_cons_zero, List.set_cons_succ]
          rfl
        refine pure_ (i := 17) (N := some 104) (v := ?_) (a' := ?_) #[true, true, true, true, true, true, true, true, true, true, true, true, true, true, true, true, true, true, false, false, false, false, false, false, false, false, false, false, false, false] rfl rfl (by kernel_rfl) (fun _ _ _ h => h) (Or.inl ⟨by rfl, ?_⟩) ?_ ?_
        rotate_left
        · intro w'
          go_simp
          with_reducible rfl
        rotate_left
        · simp only [Act.put, List.setIfInBounds_toArray, List.set_cons_zero, List.set_cons_succ]
          rfl
        refine pure_ (i := 18) (N := some 105) (v := ?_) (a' := ?_) #[true, true, true, true, true, true, true, true, true, true, true, true, true, true, true, true, true, true, true, false, false, false, false, false, false, false, false, false, false, false] rfl rfl (by kernel_rfl) (fun _ _ _ h => h) (Or.inl ⟨by rfl, ?_⟩) ?_ ?_
        rotate_left
        · intro w'
          go_simp
          with_reducible rfl
        rotate_left
        · simp only [Act.put, List.setIfInBounds_toArray, List.set_cons_zero, List.set_cons_succ]
          rfl
        refine pure_ (i := 19) (N := some 106) (v := ?_) (a' := ?_) #[true, true, true, true, true, true, true, true, true, true, true, true, true, true, true, true, true, true, true, true, false, false, false, false, false, false, false, false, false, false] rfl rfl (by kernel_rfl) (fun _ _ _ h => h) (Or.inl ⟨by rfl, ?_⟩) ?_ ?_
        rotate_left
        · intro w'
          go_simp
          with_reducible rfl
        rotate_left
        · simp only [Act.put, List.setIfInBounds_toArray, List.set_cons_zero, List.set_cons_succ]
          rfl
        refine pure_ (i := 20) (N := some 107) (v := ?_) (a' := ?_) #[true, true, true, true, true, true, true, true, true, true, true, true, true, true, true, true, true, true, true, true, true, false, false, false, false, false, false, false, false, false] rfl rfl (by kernel_rfl) (fun _ _ _ h => h) (Or.inl ⟨by rfl, ?_⟩) ?_ ?_
        rotate_left
        · intro w'
          go_simp
          with_reducible rfl
        rotate_left
        · simp only [Act.put, List.setIfInBounds_toArray, List.set_cons_zero, List.set_cons_succ]
          rfl
        refine take_ (i := 21) (N := some 108) (v := ?_) (a' := ?_) #[true, true, true, true, true, true, true, true, true, true, true, true, true, true, true, true, true, true, true, true, true, true, false, false, false, false, false, false, false, false] rfl rfl (by kernel_rfl) (fun _ _ _ h => h) (Or.inl ⟨by rfl, ?_⟩) hHeld ?_ ?_
        rotate_left
        · intro w' hSw
          have hSw : w' = W9 := hSw
          subst hSw
          go_simp
          with_reducible rfl
        rotate_left
        · simp only [Act.put, List.setIfInBounds_toArray, List.set_cons_zero, List.set_cons_succ]
          rfl
        refine pure_ (i := 22) (N := some 109) (v := ?_) (a' := ?_) #[true, true, true, true, true, true, true, true, true, true, true, true, true, true, true, true, true, true, true, true, true, true, true, false, false, false, false, false, false, false] rfl rfl (by kernel_rfl) (fun _ _ _ h => h) (Or.inl ⟨by rfl, ?_⟩) ?_ ?_
        rotate_left
        · intro w'
          go_simp
          with_reducible rfl
        rotate_left
        · simp only [Act.put, List.setIfInBounds_toArray, List.set_cons_zero, List.set_cons_succ]
          rfl
        refine pure_ (i := 23) (N := some 110) (v := ?_) (a' := ?_) #[true, true, true, true, true, true, true, true, true, true, true, true, true, true, true, true, true, true, true, true, true, true, true, true, false, false, false, false, false, false] rfl rfl (by kernel_rfl) (fun _ _ _ h => h) (Or.inl ⟨by rfl, ?_⟩) ?_ ?_
        rotate_left
        · intro w'
          go_simp
          with_reducible rfl
        rotate_left
        · simp only [Act.put, List.setIfInBounds_toArray, List.set_cons_zero, List.set_cons_succ]
          rfl
        refine pure_ (i := 24) (N := some 111) (v := ?_) (a' := ?_) #[true, true, true, true, true, true, true, true, true, true, true, true, true, true, true, true, true, true, true, true, true, true, true, true, true, false, false, false, false, false] rfl rfl (by kernel_rfl) (fun _ _ _ h => h) (Or.inl ⟨by rfl, ?_⟩) ?_ ?_
        rotate_left
        · intro w'
          go_simp
          with_reducible rfl
        rotate_left
        · simp only [Act.put, List.setIfInBounds_toArray, List.set_cons_zero, List.set_cons_succ]
          rfl
        refine take_ (i := 25) (N := some 112) (v := ?_) (a' := ?_) #[true, true, true, true, true, true, true, true, true, true, true, true, true, true, true, true, true, true, true, true, true, true, true, true, true, true, false, false, false, false] rfl rfl (by kernel_rfl) (fun _ _ _ h => h) (Or.inl ⟨by rfl, ?_⟩) hHeld ?_ ?_
        rotate_left
        · intro w' hSw
          have hSw : w' = W9 := hSw
          subst hSw
          go_simp
          with_reducible rfl
        rotate_left
        · simp only [Act.put, List.setIfInBounds_toArray, List.set_cons_zero, List.set_cons_succ]
          rfl
        refine pure_ (i := 26) (N := some 113) (v := ?_) (a' := ?_) #[true, true, true, true, true, true, true, true, true, true, true, true, true, true, true, true, true, true, true, true, true, true, true, true, true, true, true, false, false, false] rfl rfl (by kernel_rfl) (fun _ _ _ h => h) (Or.inl ⟨by rfl, ?_⟩) ?_ ?_
        rotate_left
        · intro w'
          go_simp
          with_reducible rfl
        rotate_left
        · simp only [Act.put, List.setIfInBounds_toArray, List.set_cons_zero, List.set_cons_succ]
          rfl
        refine pure_ (i := 27) (N := some 114) (v := ?_) (a' := ?_) #[true, true, true, true, true, true, true, true, true, true, true, true, true, true, true, true, true, true, true, true, true, true, true, true, true, true, true, true, false, false] rfl rfl (by kernel_rfl) (fun _ _ _ h => h) (Or.inl ⟨by rfl, ?_⟩) ?_ ?_
        rotate_left
        · intro w'
          go_simp
          with_reducible rfl
        rotate_left
        · simp only [Act.put, List.setIfInBounds_toArray, List.set_cons_zero, List.set_cons_succ]
          rfl
        refine pure_ (i := 28) (N := some 115) (v := ?_) (a' := ?_) #[true, true, true, true, true, true, true, true, true, true, true, true, true, true, true, true, true, true, true, true, true, true, true, true, true, true, true, true, true, false] rfl rfl (by kernel_rfl) (fun _ _ _ h => h) (Or.inl ⟨by rfl, ?_⟩) ?_ ?_
        rotate_left
        · intro w'
          go_simp
          with_reducible rfl
        rotate_left
        · simp only [Act.put, List.setIfInBounds_toArray, List.set_cons_zero, List.set_cons_succ]
          rfl
        refine pure_ (i := 29) (N := some 116) (v := ?_) (a' := ?_) #[true, true, true, true, true, true, true, true, true, true, true, true, true, true, true, true, true, true, true, true, true, true, true, true, true, true, true, true, true, true] rfl rfl (by kernel_rfl) (fun _ _ _ h => h) (Or.inl ⟨by rfl, ?_⟩) ?_ ?_
        rotate_left
        · intro w'
          go_simp
          with_reducible rfl
        rotate_left
        · simp only [Act.put, List.setIfInBounds_toArray, List.set_cons_zero, List.set_cons_succ]
          rfl
        refine done_ (by kernel_rfl) ?_
        go_wp2
        go_roundw
        case rel => exact ⟨j + 1, by omega, by go_num, HB7.out⟩
        case measure => simp [intOf]; omega
      · rw [show (([⟨peer, number, 0, 0, 0, 0, 0, true, 0, []⟩] : List Rc).filter (fun r => tgt [p, q] r == 0)).length = 0 by rw [List.filter_cons_of_neg (by rw [ht]; decide)]; rfl] at cA
        rw [show (([⟨peer, number, 0, 0, 0, 0, 0, true, 0, []⟩] : List Rc).filter (fun r => tgt [p, q] r == 1)).length = 1 by rw [List.filter_cons_of_pos (by rw [ht]; rfl)]; rfl] at cB
        have HA := Lib.hid cA
        have HBc := Lib.hid cB
        clear cA cB hb7 hb67 ht
        rw [hm]
        clear hm HTG HPE
        have hqp : (q == p) = false := by simpa using fun e => HPQ.out e.symm
        go_wp2
        have cA := HA.out
        have cB := HBc.out
        refine start_ (n := 30) (S := fun w' => w' = w7.drew) (ds := []) #[false, false, false, false, false, false, false, false, false, false, false, false, false, false, false, false, false, false, false, false, false, false, false, false, false, false, false, false, false, false] (by kernel_rfl) rfl rfl (rfl) (fun hHeld => ?_)
        generalize hW9 : w7.drew = W9 at *
        refine pure_ (i := 0) (N := some 87) (v := ?_) (a' := ?_) #[true, false, false, false, false, false, false, false, false, false, false, false, false, false, false, false, false, false, false, false, false, false, false, false, false, false, false, false, false, false] rfl rfl (by kernel_rfl) (fun _ _ _ h => h) (Or.inl ⟨by rfl, ?_⟩) ?_ ?_
        rotate_left
        · intro w'
          go_simp
          with_reducible rfl
        rotate_left
        · simp only [Act.put, List.setIfInBounds_toArray, List.set_cons_zero, List.set_cons_succ]
          rfl
        refine pure_ (i := 1) (N := some 88) (v := ?_) (a' := ?_) #[true, true, false, false, false, false, false, false, false, false, false, false, false, false, false, false, false, false, false, false, false, false, false, false, false, false, false, false, false, false] rfl rfl (by kernel_rfl) (fun _ _ _ h => h) (Or.inl ⟨by rfl, ?_⟩) ?_ ?_
        rotate_left
        · intro w'
          go_simp
          with_reducible rfl
        rotate_left
        · simp only [Act.put, List.setIfInBounds_toArray, List.set_cons_zero, List.set_cons_succ]
          rfl
        refine pure_ (i := 2) (N := some 89) (v := ?_) (a' := ?_) #[true, true, true, false, false, false, false, false, false, false, false, false, false, false, false, false, false, false, false, false, false, false, false, false, false, false, false, false, false, false] rfl rfl (by kernel_rfl) (fun _ _ _ h => h) (Or.inl ⟨by rfl, ?_⟩) ?_ ?_
        rotate_left
        · intro w'
          go_simp
          with_reducible rfl
        rotate_left
        · simp only [Act.put, List.setIfInBounds_toArray, List.set_cons_zero, List.set_cons_succ]
          rfl
        refine pure_ (i := 3) (N := some 90) (v := ?_) (a' := ?_) #[true, true, true, true, false, false, false, false, false, false, false, false, false, false, false, false, false, false, false, false, false, false, false, false, false, false, false, false, false, false] rfl rfl (by kernel_rfl) (fun _ _ _ h => h) (Or.inl ⟨by rfl, ?_⟩) ?_ ?_
        rotate_left
        · intro w'
          go_simp
          with_reducible rfl
        rotate_left
        · simp only [Act.put, List.setIfInBounds_toArray, List.set_cons_zero, List.set_cons_succ]
          rfl
        refine pure_ (i := 4) (N := some 91) (v := ?_) (a' := ?_) #[true, true, true, true, true, false, false, false, false, false, false, false, false, false, false, false, false, false, false, false, false, false, false, false, false, false, false, false, false, false] rfl rfl (by kernel_rfl) (fun _ _ _ h => h) (Or.inl ⟨by rfl, ?_⟩) ?_ ?_
        rotate_left
        · intro w'
          go_simp
          with_reducible rfl
        rotate_left
        · simp only [Act.put, List.setIfInBounds_toArray, List.set_cons_zero, List.set_cons_succ]
          rfl
        refine pure_ (i := 5) (N := some 92) (v := ?_) (a' := ?_) #[true, true, true, true, true, true, false, false, false, false, false, false, false, false, false, false, false, false, false, false, false, false, false, false, false, false, false, false, false, false] rfl rfl (by kernel_rfl) (fun _ _ _ h => h) (Or.inl ⟨by rfl, ?_⟩) ?_ ?_
        rotate_left
        · intro w'
          go_simp
          with_reducible rfl
        rotate_left
        · simp only [Act.put, List.setIfInBounds_toArray, List.set_cons_zero, List.set_cons_succ]
          rfl
        refine pure_ (i := 6) (N := some 93) (v := ?_) (a' := ?_) #[true, true, true, true, true, true, true, false, false, false, false, false, false, false, false, false, false, false, false, false, false, false, false, false, false, false, false, false, false, false] rfl rfl (by kernel_rfl) (fun _ _ _ h => h) (Or.inl ⟨by rfl, ?_⟩) ?_ ?_
        rotate_left
        · intro w'
          go_simp
          with_reducible rfl
        rotate_left
        · simp only [Act.put, List.setIfInBounds_toArray, List.set_cons_zero, List.set_cons_succ]
          rfl
        refine pure_ (i := 7) (N := some 94) (v := ?_) (a' := ?_) #[true, true, true, true, true, true, true, true, false, false, false, false, false, false, false, false, false, false, false, false, false, false, false, false, false, false, false, false, false, false] rfl rfl (by kernel_rfl) (fun _ _ _ h => h) (Or.inl ⟨by rfl, ?_⟩) ?_ ?_
        rotate_left
        · intro w'
          go_simp
          with_reducible rfl
        rotate_left
        · simp only [Act.put, List.setIfInBounds_toArray, List.set_cons_zero, List.set_cons_succ]
          rfl
        refine pure_ (i := 8) (N := some 95) (v := ?_) (a' := ?_) #[true, true, true, true, true, true, true, true, true, false, false, false, false, false, false, false, false, false, false, false, false, false, false, false, false, false, false, false, false, false] rfl rfl (by kernel_rfl) (fun _ _ _ h => h) (Or.inl ⟨by rfl, ?_⟩) ?_ ?_
        rotate_left
        · intro w'
          go_simp
          with_reducible rfl
        rotate_left
        · simp only [Act.put, List.setIfInBounds_toArray, List.set_cons_zero, List.set_cons_succ]
          rfl
        refine pure_ (i := 9) (N := some 96) (v := ?_) (a' := ?_) #[true, true, true, true, true, true, true, true, true, true, false, false, false, false, false, false, false, false, false, false, false, false, false, false, false, false, false, false, false, false] rfl rfl (by kernel_rfl) (fun _ _ _ h => h) (Or.inl ⟨by rfl, ?_⟩) ?_ ?_
        rotate_left
        · intro w'
          go_simp
          with_reducible rfl
        rotate_left
        · simp only [Act.put, List.setIfInBounds_toArray, List.set_cons_zero, List.set_cons_succ]
          rfl
        refine take_ (i := 10) (N := some 97) (v := ?_) (a' := ?_) #[true, true, true, true, true, true, true, true, true, true, true, false, false, false, false, false, false, false, false, false, false, false, false, false, false, false, false, false, false, false] rfl rfl (by kernel_rfl) (fun _ _ _ h => h) (Or.inl ⟨by rfl, ?_⟩) hHeld ?_ ?_
        rotate_left
        · intro w' hSw
          have hSw : w' = W9 := hSw
          subst hSw
          go_simp
          with_reducible rfl
        rotate_left
        · simp only [Act.put, List.setIfInBounds_toArray, List.set_cons_zero, List.set_cons_succ]
          rfl
        refine pure_ (i := 11) (N := some 98) (v := ?_) (a' := ?_) #[true, true, true, true, true, true, true, true, true, true, true, true, false, false, false, false, false, false, false, false, false, false, false, false, false, false, false, false, false, false] rfl rfl (by kernel_rfl) (fun _ _ _ h => h) (Or.inl ⟨by rfl, ?_⟩) ?_ ?_
        rotate_left
        · intro w'
          go_simp
          with_reducible rfl
        rotate_left
        · simp only [Act.put, List.setIfInBounds_toArray, List.set_cons_zero, List.set_cons_succ]
          rfl
        refine pure_ (i := 12) (N := some 99) (v := ?_) (a' := ?_) #[true, true, true, true, true, true, true, true, true, true, true, true, true, false, false, false, false, false, false, false, false, false, false, false, false, false, false, false, false, false] rfl rfl (by kernel_rfl) (fun _ _ _ h => h) (Or.inl ⟨by rfl, ?_⟩) ?_ ?_
        rotate_left
        · intro w'
          go_simp
          with_reducible rfl
        rotate_left
        · simp only [Act.put, List.setIfInBounds_toArray, List.set_cons_zero, List.set_cons_succ]
          rfl
        refine pure_ (i := 13) (N := some 100) (v := ?_) (a' := ?_) #[true, true, true, true, true, true, true, true, true, true, true, true, true, true, false, false, false, false, false, false, false, false, false, false, false, false, false, false, false, false] rfl rfl (by kernel_rfl) (fun _ _ _ h => h) (Or.inl ⟨by rfl, ?_⟩) ?_ ?_
        rotate_left
        · intro w'
          go_simp
          with_reducible rfl
        rotate_left
        · simp only [Act.put, List.setIfInBounds_toArray, List.set_cons_zero, List.set_cons_succ]
          rfl
        refine pure_ (i := 14) (N := some 101) (v := ?_) (a' := ?_) #[true, true, true, true, true, true, true, true, true, true, true, true, true, true, true, false, false, false, false, false, false, false, false, false, false, false, false, false, false, false] rfl rfl (by kernel_rfl) (fun _ _ _ h => h) (Or.inl ⟨by rfl, ?_⟩) ?_ ?_
        rotate_left
        · intro w'
          go_simp
          with_reducible rfl
        rotate_left
        · simp only [Act.put, List.setIfInBounds_toArray, List.set_cons_zero, List.set_cons_succ]
          rfl
        refine pure_ (i := 15) (N := some 102) (v := ?_) (a' := ?_) #[true, true, true, true, true, true, true, true, true, true, true, true, true, true, true, true, false, false, false, false, false, false, false, false, false, false, false, false, false, false] rfl rfl (by kernel_rfl) (fun _ _ _ h => h) (Or.inl ⟨by rfl, ?_⟩) ?_ ?_
        rotate_left
        · intro w'
          go_simp
          with_reducible rfl
        rotate_left
        · simp only [Act.put, List.setIfInBounds_toArray, List.set_cons_zero, List.set_cons_succ]
          rfl
        refine pure_ (i := 16) (N := some 103) (v := ?_) (a' := ?_) #[true, true, true, true, true, true, true, true, true, true, true, true, true, true, true, true, true, false, false, false, false, false, false, false, false, false, false, false, false, false] rfl rfl (by kernel_rfl) (fun _ _ _ h => h) (Or.inl ⟨by rfl, ?_⟩) ?_ ?_
        rotate_left
        · intro w'
          go_simp
          with_reducible rfl
        rotate_left
        · simp only [Act.put, List.setIfInBounds_toArray, List.set_cons_zero, List.set_cons_succ]
          rfl
        refine pure_ (i := 17) (N := some 104) (v := ?_) (a' := ?_) #[true, true, true, true, true, true, true, true, true, true, true, true, true, true, true, true, true, true, false, false, false, false, false, false, false, false, false, false, false, false] rfl rfl (by kernel_rfl) (fun _ _ _ h => h) (Or.inl ⟨by rfl, ?_⟩) ?_ ?_
        rotate_left
        · intro w'
          go_simp
          with_reducible rfl
        rotate_left
        · simp only [Act.put, List.setIfInBounds_toArray, List.set_cons_zero, List.set_cons_succ]
          rfl
        refine pure_ (i := 18) (N := some 105) (v := ?_) (a' := ?_) #[true, true, true, true, true, true, true, true, true, true, true, true, true, true, true, true, true, true, true, false, false, false, false, false, false, false, false, false, false, false] rfl rfl (by kernel_rfl) (fun _ _ _ h => h) (Or.inl ⟨by rfl, ?_⟩) ?_ ?_
        rotate_left
        · intro w'
          go_simp
          with_reducible rfl
        rotate_left
        · simp only [Act.put, List.setIfInBounds_toArray, List.set_cons_zero, List.set_cons_succ]
          rfl
        refine pure_ (i := 19) (N := some 106) (v := ?_) (a' := ?_) #[true, true, true, true, true, true, true, true, true, true, true, true, true, true, true, true, true, true, true, true, false, false, false, false, false, false, false, false, false, false] rfl rfl (by kernel_rfl) (fun _ _ _ h => h) (Or.inl ⟨by rfl, ?_⟩) ?_ ?_
        rotate_left
        · intro w'
          go_simp
          with_reducible rfl
        rotate_left
        · simp only [Act.put, List.setIfInBounds_toArray, List.set_cons_zero, List.set_cons_succ]
          rfl
        refine pure_ (i := 20) (N := some 107) (v := ?_) (a' := ?_) #[true, true, true, true, true, true, true, true, true, true, true, true, true, true, true, true, true, true, true, true, true, false, false, false, false, false, false, false, false, false] rfl rfl (by kernel_rfl) (fun _ _ _ h => h) (Or.inl ⟨by rfl, ?_⟩) ?_ ?_
        rotate_left
        · intro w'
          go_simp
          with_reducible rfl
        rotate_left
        · simp only [Act.put, List.setIfInBounds_toArray, List.set_cons_zero, List.set_cons_succ]
          rfl
        refine take_ (i := 21) (N := some 108) (v := ?_) (a' := ?_) #[true, true, true, true, true, true, true, true, true, true, true, true, true, true, true, true, true, true, true, true, true, true, false, false, false, false, false, false, false, false] rfl rfl (by kernel_rfl) (fun _ _ _ h => h) (Or.inl ⟨by rfl, ?_⟩) hHeld ?_ ?_
        rotate_left
        · intro w' hSw
          have hSw : w' = W9 := hSw
          subst hSw
          go_simp
          with_reducible rfl
        rotate_left
        · simp only [Act.put, List.setIfInBounds_toArray, List.set_cons_zero, List.set_cons_succ]
          rfl
        refine pure_ (i := 22) (N := some 109) (v := ?_) (a' := ?_) #[true, true, true, true, true, true, true, true, true, true, true, true, true, true, true, true, true, true, true, true, true, true, true, false, false, false, false, false, false, false] rfl rfl (by kernel_rfl) (fun _ _ _ h => h) (Or.inl ⟨by rfl, ?_⟩) ?_ ?_
        rotate_left
        · intro w'
          go_simp
          with_reducible rfl
        rotate_left
        · simp only [Act.put, List.setIfInBounds_toArray, List.set_cons_zero, List.set_cons_succ]
          rfl
        refine pure_ (i := 23) (N := some 110) (v := ?_) (a' := ?_) #[true, true, true, true, true, true, true, true, true, true, true, true, true, true, true, true, true, true, true, true, true, true, true, true, false, false, false, false, false, false] rfl rfl (by kernel_rfl) (fun _ _ _ h => h) (Or.inl ⟨by rfl, ?_⟩) ?_ ?_
        rotate_left
        · intro w'
          go_simp
          with_reducible rfl
        rotate_left
        · simp only [Act.put, List.setIfInBounds_toArray, List.set_cons_zero, List.set_cons_succ]
          rfl
        refine pure_ (i := 24) (N := some 111) (v := ?_) (a' := ?_) #[true, true, true, true, true, true, true, true, true, true, true, true, true, true, true, true, true, true, true, true, true, true, true, true, true, false, false, false, false, false] rfl rfl (by kernel_rfl) (fun _ _ _ h => h) (Or.inl ⟨by rfl, ?_⟩) ?_ ?_
        rotate_left
        · intro w'
          go_simp
          with_reducible rfl
        rotate_left
        · simp only [Act.put, List.setIfInBounds_toArray, List.set_cons_zero, List.set_cons_succ]
          rfl
        refine take_ (i := 25) (N := some 112) (v := ?_) (a' := ?_) #[true, true, true, true, true, true, true, true, true, true, true, true, true, true, true, true, true, true, true, true, true, true, true, true, true, true, false, false, false, false] rfl rfl (by kernel_rfl) (fun _ _ _ h => h) (Or.inl ⟨by rfl, ?_⟩) hHeld ?_ ?_
        rotate_left
        · intro w' hSw
          have hSw : w' = W9 := hSw
          subst hSw
          go_simp
          with_reducible rfl
        rotate_left
        · simp only [Act.put, List.setIfInBounds_toArray, List.set_cons_zero, List.set_cons_succ]
          rfl
        refine pure_ (i := 26) (N := some 113) (v := ?_) (a' := ?_) #[true, true, true, true, true, true, true, true, true, true, true, true, true, true, true, true, true, true, true, true, true, true, true, true, true, true, true, false, false, false] rfl rfl (by kernel_rfl) (fun _ _ _ h => h) (Or.inl ⟨by rfl, ?_⟩) ?_ ?_
        rotate_left
        · intro w'
          go_simp
          with_reducible rfl
        rotate_left
        · simp only [Act.put, List.setIfInBounds_toArray, List.set_cons_zero, List.set_cons_succ]
          rfl
        refine pure_ (i := 27) (N := some 114) (v := ?_) (a' := ?_) #[true, true, true, true, true, true, true, true, true, true, true, true, true, true, true, true, true, true, true, true, true, true, true, true, true, true, true, true, false, false] rfl rfl (by kernel_rfl) (fun _ _ _ h => h) (Or.inl ⟨by rfl, ?_⟩) ?_ ?_
        rotate_left
        · intro w'
          go_simp
          with_reducible rfl
        rotate_left
        · simp only [Act.put, List.setIfInBounds_toArray, List.set_cons_zero, List.set_cons_succ]
          rfl
        refine pure_ (i := 28) (N := some 115) (v := ?_) (a' := ?_) #[true, true, true, true, true, true, true, true, true, true, true, true, true, true, true, true, true, true, true, true, true, true, true, true, true, true, true, true, true, false] rfl rfl (by kernel_rfl) (fun _ _ _ h => h) (Or.inl ⟨by rfl, ?_⟩) ?_ ?_
        rotate_left
        · intro w'
          go_simp
          with_reducible rfl
        rotate_left
        · simp only [Act.put, List.setIfInBounds_toArray, List.set_cons_zero, List.set_cons_succ]
          rfl
        refine pure_ (i := 29) (N := some 116) (v := ?_) (a' := ?_) #[true, true, true, true, true, true, true, true, true, true, true, true, true, true, true, true, true, true, true, true, true, true, true, true, true, true, true, true, true, true] rfl rfl (by kernel_rfl) (fun _ _ _ h => h) (Or.inl ⟨by rfl, ?_⟩) ?_ ?_
        rotate_left
        · intro w'
          go_simp
          with_reducible rfl
        rotate_left
        · simp only [Act.put, List.setIfInBounds_toArray, List.set_cons_zero, List.set_cons_succ]
          rfl
        refine done_ (by kernel_rfl) ?_
        go_wp2
        go_roundw
        case rel => exact ⟨j + 1, by omega, by go_num, HB7.out⟩
        case measure => simp [intOf]; omega
    · have hjn : j = n := by omega
      subst hjn
      have HBF := Lib.hid hbel
      go_wp2
      go_ret
      exact ⟨rfl, HBF.out⟩
end Go.Proofs.Ytbkcopejclcfdaa
