/- The clean machine's walk of TopRebirth: symbols made of symbols that were made of symbols. -/
import Derived.Test.YtkimkgbppegkhaaGreatGq
namespace Go.Proofs.YtkimkgbppegkhaaGreat.Cm
open Go Go.RowKit Go.Proofs.YtkimkgbppegkhaaGreat.Gf
set_option maxRecDepth 1000000
theorem shr_any (z : Int) (s : Nat) : ∃ w : Int, ∀ t, binA Tryz.prog .shr t (vf (.int .i64 z)) (vf (.int .u64 ((s : Nat) : Int))) = some (.int .i64 w) := by
  cases z with
  | ofNat a => exact ⟨_, fun _ => rfl⟩
  | negSucc a => exact ⟨_, fun _ => rfl⟩

theorem rebirth_pure {X : Heap} {n : Nat} {fd fo : F} {sz mo : Int} (hw : ∀ (X : Heap) (n : Nat), Top X n → PureC 6 [] X n fun v _ => v = vf (.bool true)) (data : List Nat) (zs : List Int) (hd0 : Cm.lenA fd = some data.length) (hd1 : 0 < data.length → data.length ≤ 60 → RowV X fd data) (hcp : CapOk fd) (ho : ZsV X fo zs) (ht : Top X n) : PureC 3 [vf (fd), vf (.int .i64 (sz)), vf (.int .i64 (mo)), vf (fo)] X n fun v X' => v = vf (.bool true) := by
  refine PureC.of_to (by kernel_rfl) ?_
  have s0 := Sep.ini ht
  have hm0 : Mono X X := Mono.rfl
  refine To.seq (by kernel_rfl) ?_
  refine To.region (by kernel_rfl) ?_
  refine Sg.go 1 (by kernel_rfl) ?_
  refine Sg.done (by kernel_rfl) ?_
  show To Tryz.prog 3 [1] _ _ _ _
  refine To.seq (by kernel_rfl) ?_
  refine To.region (by kernel_rfl) ?_
  obtain ⟨_, X1, n2, hc3, hm4, ht5, rfl⟩ := (hw _ _ s0.topX : PureC 6 [] X (n) _)
  obtain ⟨H6, hc7, s8⟩ := s0.call hc3 hm4 ht5
  have hm0 := hm0.tr hm4
  have ho := ho.mono hm4
  refine Sg.op (some 26) (by kernel_rfl) (jCall (by kernel_rfl) hc7 (by kernel_rfl)) ?_
  obtain ⟨v, Xq, nq, hc, hm, ht2, b, rfl, hb⟩ := small_pure (sz := sz) (mo := mo) data hd0 s8.topX
  cases b
  · skip
    refine Sg.go 1 (by kernel_rfl) ?_
    refine Sg.done (by kernel_rfl) ?_
    show To Tryz.prog 3 [1, 1] _ _ _ _
    refine To.seq (by kernel_rfl) ?_
    refine To.seq (by kernel_rfl) ?_
    refine To.region (by kernel_rfl) ?_
    refine Sg.go 6 (by kernel_rfl) ?_
    obtain ⟨_, X9, n10, hc11, hm12, ht13, rfl⟩ := (PureC.same hc hm ht2 : PureC 7 [vf (fd), vf (.int .i64 (sz)), vf (.int .i64 (mo))] X1 (n2) _)
    obtain ⟨H14, hc15, s16⟩ := s8.call hc11 hm12 ht13
    have hm0 := hm0.tr hm12
    have ho := ho.mono hm12
    refine Sg.op (some 33) (by kernel_rfl) (jCall (by kernel_rfl) hc15 (by kernel_rfl)) ?_
    refine Sg.go 7 (by kernel_rfl) ?_
    refine Sg.done (by kernel_rfl) ?_
    show To Tryz.prog 3 [1, 0, 1, 1] _ _ _ _
    refine To.ifT (by kernel_rfl) (by kernel_rfl) ?_
    refine To.seq (by kernel_rfl) ?_
    refine To.region (by kernel_rfl) ?_
    refine Sg.go 2 (by kernel_rfl) ?_
    refine Sg.done (by kernel_rfl) ?_
    show To Tryz.prog 3 [1, 0, 1, 0, 1, 1] _ _ _ _
    refine To.ret (by kernel_rfl) ?_
    exact ⟨.inr rfl, _, by kernel_rfl, X9, _, s16, hm0, rfl⟩
  · skip
    refine Sg.go 1 (by kernel_rfl) ?_
    refine Sg.done (by kernel_rfl) ?_
    show To Tryz.prog 3 [1, 1] _ _ _ _
    refine To.seq (by kernel_rfl) ?_
    refine To.seq (by kernel_rfl) ?_
    refine To.region (by kernel_rfl) ?_
    refine Sg.go 6 (by kernel_rfl) ?_
    obtain ⟨_, X17, n18, hc19, hm20, ht21, rfl⟩ := (PureC.same hc hm ht2 : PureC 7 [vf (fd), vf (.int .i64 (sz)), vf (.int .i64 (mo))] X1 (n2) _)
    obtain ⟨H22, hc23, s24⟩ := s8.call hc19 hm20 ht21
    have hm0 := hm0.tr hm20
    have ho := ho.mono hm20
    refine Sg.op (some 33) (by kernel_rfl) (jCall (by kernel_rfl) hc23 (by kernel_rfl)) ?_
    refine Sg.go 4 (by kernel_rfl) ?_
    refine Sg.op (some 38) (by kernel_rfl) (jLenV (l := zs.length) (ho.lenA) (by kernel_rfl)) ?_
    by_cases hz9 : 4 < zs.length
    · skip
      refine Sg.op (some 39) (by kernel_rfl) (jBin (b_gtrT .i64 (x := ((zs.length : Nat) : Int)) (y := (4 : Int)) (by omega)) (by kernel_rfl)) ?_
      refine Sg.go 1 (by kernel_rfl) ?_
      refine Sg.done (by kernel_rfl) ?_
      show To Tryz.prog 3 [1, 0, 1, 1] _ _ _ _
      refine To.ifT (by kernel_rfl) (by kernel_rfl) ?_
      refine To.seq (by kernel_rfl) ?_
      refine To.region (by kernel_rfl) ?_
      refine Sg.go 2 (by kernel_rfl) ?_
      refine Sg.done (by kernel_rfl) ?_
      show To Tryz.prog 3 [1, 0, 1, 0, 1, 1] _ _ _ _
      refine To.ret (by kernel_rfl) ?_
      exact ⟨.inr rfl, _, by kernel_rfl, X17, _, s24, hm0, rfl⟩
    · skip
      refine Sg.op (some 39) (by kernel_rfl) (jBin (b_gtrF .i64 (x := ((zs.length : Nat) : Int)) (y := (4 : Int)) (by omega)) (by kernel_rfl)) ?_
      obtain ⟨c1, c2, c3, c4, c5, c6⟩ := hb rfl
      have hd := (hd1 (by omega) (by omega)).mono hm0
      obtain ⟨N, rfl⟩ : ∃ N : Nat, sz = N := ⟨sz.toNat, by omega⟩
      obtain ⟨M, rfl⟩ : ∃ M : Nat, mo = M := ⟨mo.toNat, by omega⟩
      obtain ⟨B, hB⟩ : ∃ B, data.length = B := ⟨_, rfl⟩
      have hS : ShOk B N M := ⟨by omega, by omega, by omega, by omega, by omega, by omega⟩
      have hb8 := hd.2.1
      have hbp := blk_pos hS
      refine Sg.go 1 (by kernel_rfl) ?_
      refine Sg.done (by kernel_rfl) ?_
      show To Tryz.prog 3 [1, 0, 1, 1] _ _ _ _
      refine To.ifF (by kernel_rfl) (by kernel_rfl) ?_
      refine To.skip (by kernel_rfl) ?_
      show To Tryz.prog 3 [1, 1, 1] _ _ _ _
      refine To.seq (by kernel_rfl) ?_
      refine To.region (by kernel_rfl) ?_
      refine Sg.go 1 (by kernel_rfl) ?_
      refine Sg.op (some 43) (by kernel_rfl) (jLenV (l := B) (hB ▸ hd.lenA) (by kernel_rfl)) ?_
      refine Sg.go 3 (by kernel_rfl) ?_
      obtain ⟨H25, s26, J27⟩ := jNewM s24 (.cells [.int .i64 0, .int .i64 0, .int .i64 0] true)
      refine Sg.op (some 10) (by kernel_rfl) (J27 _ _ (vf (.ptr (n18) (0))) (by kernel_rfl)) ?_
      obtain ⟨H28, s29, J30⟩ := jSet (off := 0) (new := [.int .i64 ((B : Nat) : Int), .int .i64 ((N : Nat) : Int), .int .i64 ((M : Nat) : Int)]) (cs' := [.int .i64 ((B : Nat) : Int), .int .i64 ((N : Nat) : Int), .int .i64 ((M : Nat) : Int)]) s26 0 rfl (by simp) rfl
      have s29 : Sep X17 H28 (n18 + 1) [(n18, .cells [.int .i64 ((B : Nat) : Int), .int .i64 ((N : Nat) : Int), .int .i64 ((M : Nat) : Int)] true)] := s29
      refine Sg.op none (by kernel_rfl) (J30 _ _ (by kernel_rfl)) ?_
      refine Sg.done (by kernel_rfl) ?_
      show To Tryz.prog 3 [1, 1, 1, 1] _ _ _ _
      refine To.seq (by kernel_rfl) ?_
      refine To.region (by kernel_rfl) ?_
      refine Sg.op (some 48) (by kernel_rfl) (jLoadAE (off := 0) (sz := 3) (c := [.int .i64 ((B : Nat) : Int), .int .i64 ((N : Nat) : Int), .int .i64 ((M : Nat) : Int)]) (s29.at 0 rfl) (by simp) rfl (by kernel_rfl)) ?_
      refine Sg.go 1 (by kernel_rfl) ?_
      obtain ⟨v, Xr, nr, hc3, hm3, ht3, g, e, rfl, hg⟩ := onew_pure data hS hd hB hcp s29.topX
      rcases hg with ⟨rfl, o, bl, rfl, hO, hbl, hA⟩ | ⟨rfl, rfl, _⟩
      · skip
        obtain ⟨_, X31, n32, hc33, hm34, ht35, ⟨rfl, rfl⟩⟩ := (PureC.keep hc3 hm3 ht3 : PureC 8 [.u (.agg [.int .i64 ((B : Nat) : Int), .int .i64 ((N : Nat) : Int), .int .i64 ((M : Nat) : Int)]), vf (fd)] X17 (n18 + 1) _)
        obtain ⟨H36, hc37, s38⟩ := s29.call hc33 hm34 ht35
        have hm0 := hm0.tr hm34
        have ho := ho.mono hm34
        have hd := hd.mono hm34
        refine Sg.op (some 50) (by kernel_rfl) (jCall (by kernel_rfl) hc37 (by kernel_rfl)) ?_
        refine Sg.go 5 (by kernel_rfl) ?_
        refine Sg.done (by kernel_rfl) ?_
        show To Tryz.prog 3 [1, 1, 1, 1, 1] _ _ _ _
        refine To.seq (by kernel_rfl) ?_
        refine To.seq (by kernel_rfl) ?_
        refine To.region (by kernel_rfl) ?_
        refine Sg.go 1 (by kernel_rfl) ?_
        refine Sg.op (some 54) (by kernel_rfl) (jBin (b_neqF .i64 (x := (0 : Int)) (y := (0 : Int)) (by omega)) (by kernel_rfl)) ?_
        refine Sg.go 4 (by kernel_rfl) ?_
        refine Sg.done (by kernel_rfl) ?_
        show To Tryz.prog 3 [1, 0, 1, 1, 1, 1, 1] _ _ _ _
        refine To.ifF (by kernel_rfl) (by kernel_rfl) ?_
        refine To.skip (by kernel_rfl) ?_
        show To Tryz.prog 3 [1, 1, 1, 1, 1, 1] _ _ _ _
        refine To.seq (by kernel_rfl) ?_
        refine To.region (by kernel_rfl) ?_
        refine Sg.go 1 (by kernel_rfl) ?_
        obtain ⟨H39, s40, J41⟩ := jNewM s38 (.cells [.int .i64 0, .int .i64 0] true)
        refine Sg.op (some 13) (by kernel_rfl) (J41 _ _ (vf (.ptr (n32) (0))) (by kernel_rfl)) ?_
        obtain ⟨H42, s43, J44⟩ := jSet (off := 0) (new := [.int .i64 1, .int .i64 1]) (cs' := [.int .i64 1, .int .i64 1]) s40 0 rfl (by simp) rfl
        have s43 : Sep X31 H42 (n32 + 1) [(n32, .cells [.int .i64 1, .int .i64 1] true), (n18, .cells [.int .i64 ((B : Nat) : Int), .int .i64 ((N : Nat) : Int), .int .i64 ((M : Nat) : Int)] true)] := s43
        refine Sg.op none (by kernel_rfl) (J44 _ _ (by kernel_rfl)) ?_
        refine Sg.done (by kernel_rfl) ?_
        show To Tryz.prog 3 [1, 1, 1, 1, 1, 1, 1] _ _ _ _
        refine To.seq (by kernel_rfl) ?_
        refine To.region (by kernel_rfl) ?_
        refine Sg.go 1 (by kernel_rfl) ?_
        refine Sg.op (some 61) (by kernel_rfl) (jLoadAE (off := 0) (sz := 2) (c := [.int .i64 1, .int .i64 1]) (s43.at 0 rfl) (by simp) rfl (by kernel_rfl)) ?_
        obtain ⟨_, X45, n46, hc47, hm48, ht49, ⟨lr, rfl, hlr⟩⟩ := (records_pure (x := 2) data bl hS hb8 (by omega) hO hbl hA s43.topX : PureC 9 [vf (.ptr (o) (0)), .u (.agg [.int .i64 1, .int .i64 1]), vf (.int .i64 2), vf (.int .i64 90)] X31 (n32 + 1) _)
        obtain ⟨H50, hc51, s52⟩ := s43.call hc47 hm48 ht49
        have hm0 := hm0.tr hm48
        have ho := ho.mono hm48
        have hd := hd.mono hm48
        have hO := hO.mono hm48
        refine Sg.op (some 62) (by kernel_rfl) (jCall (by kernel_rfl) hc51 (by kernel_rfl)) ?_
        obtain ⟨hown, hok⟩ := own_ok (x := 2) hb8 hS (by omega) hbl hA
        have hrl := recU_len (x := 2) (N := N) hS hbl hA
        refine Sg.go 1 (by kernel_rfl) ?_
        refine Sg.done (by kernel_rfl) ?_
        show To Tryz.prog 3 [1, 1, 1, 1, 1, 1, 1, 1] _ _ _ _
        refine To.seq (by kernel_rfl) ?_
        refine To.seq (by kernel_rfl) ?_
        refine To.region (by kernel_rfl) ?_
        refine Sg.go 1 (by kernel_rfl) ?_
        refine Sg.done (by kernel_rfl) ?_
        show To Tryz.prog 3 [1, 0, 1, 1, 1, 1, 1, 1, 1, 1] _ _ _ _
        refine To.block 0 (by kernel_rfl) ?_
        refine To.loop (by kernel_rfl) ?_
        refine ToL.for (zs.length) (fun gi A Hq nq => ∃ (Y : Heap) (lr : F) (rs : List Rc), AtL A [(0, vf (fd)), (3, vf (fo)), (10, vf (.ptr (n18) (0))), (11, vf (.ptr (o) (0))), (13, vf (.ptr (n32) (0))), (14, vf (lr)), (15, vf (.int .i64 ((gi : Nat) : Int)))] ∧ Sep Y Hq nq [(n32, .cells [.int .i64 1, .int .i64 1] true), (n18, .cells [.int .i64 ((B : Nat) : Int), .int .i64 ((N : Nat) : Int), .int .i64 ((M : Nat) : Int)] true)] ∧ (Mono X Y) ∧ (RowV Y fd data) ∧ (ZsV Y fo zs) ∧ (ObjV Y o B N M bl) ∧ (RecsV B N M Y lr rs) ∧ (∀ r ∈ rs, Own N bl r) ∧ (RcOk B N M rs) ∧ (rs.length < 4000) ∧ (gi = 0 → rs = (recU N 2 bl bl.length))) ⟨X45, _, _, getsL_spec (ts := [0, 3, 10, 11, 13, 14, 15]) (by kernel_rfl), s52, (hm0), (hd), (ho), (hO), (hlr), (hown), (hok), (by omega), (fun _ => rfl)⟩ (fun gi A H53 n54 hi hI => ?_) (fun A H53 n54 hI => ?_)
        · skip
          obtain ⟨Y, lr, rs, hT, s55, hm0, hd, ho, hO, hlr, hown, hok, hlen, h0⟩ := hI
          refine To.keep _ ?_ hT.sub
          have hgi4 : gi < 4 := by omega
          obtain ⟨oid, ooff, ocap, rfl, hoat⟩ := ho.sl (by omega)
          have hat := hoat gi _ (List.getElem?_eq_getElem hi)
          refine To.seq (by kernel_rfl) ?_
          refine To.seq (by kernel_rfl) ?_
          refine To.region (by kernel_rfl) ?_
          refine Sg.go 2 (by kernel_rfl) ?_
          refine Sg.op (some 65) (by kernel_rfl) (jLen (l := zs.length) (by kernel_rfl)) ?_
          refine Sg.op (some 66) (by kernel_rfl) (jBin (b_lssT .i64 (x := ((gi : Nat) : Int)) (y := ((zs.length : Nat) : Int)) (by omega)) (by kernel_rfl)) ?_
          refine Sg.done (by kernel_rfl) ?_
          show To Tryz.prog 3 [1, 0, 0, 0, 1, 0, 1, 1, 1, 1, 1, 1, 1, 1] _ _ _ _
          refine To.ifT (by kernel_rfl) (by kernel_rfl) ?_
          refine To.skip (by kernel_rfl) ?_
          show To Tryz.prog 3 [1, 0, 0, 1, 0, 1, 1, 1, 1, 1, 1, 1, 1] _ _ _ _
          refine To.seq (by kernel_rfl) ?_
          refine To.block 1 (by kernel_rfl) ?_
          refine To.seq (by kernel_rfl) ?_
          refine To.region (by kernel_rfl) ?_
          refine Sg.go 1 (by kernel_rfl) ?_
          refine Sg.done (by kernel_rfl) ?_
          show To Tryz.prog 3 [1, 0, 0, 1, 0, 0, 1, 0, 1, 1, 1, 1, 1, 1, 1, 1] _ _ _ _
          refine To.seq (by kernel_rfl) ?_
          refine To.seq (by kernel_rfl) ?_
          refine To.region (by kernel_rfl) ?_
          refine Sg.go 1 (by kernel_rfl) ?_
          refine Sg.done (by kernel_rfl) ?_
          show To Tryz.prog 3 [1, 0, 1, 0, 0, 1, 0, 0, 1, 0, 1, 1, 1, 1, 1, 1, 1, 1] _ _ _ _
          refine To.block 2 (by kernel_rfl) ?_
          refine To.loop (by kernel_rfl) ?_
          refine ToL.for (blkS B N M) (fun b A Hq nq => ∃ (Y : Heap) (a : F) (fs : List F) (nl : List Rc), AtL A [(0, vf (fd)), (3, vf (.sl (oid) (ooff) 1 (zs.length) ocap)), (10, vf (.ptr (n18) (0))), (11, vf (.ptr (o) (0))), (13, vf (.ptr (n32) (0))), (14, vf (lr)), (15, vf (.int .i64 ((gi : Nat) : Int))), (16, vf (a)), (17, vf (.int .i64 ((b : Nat) : Int)))] ∧ Sep Y Hq nq ([(n32, .cells [.int .i64 1, .int .i64 1] true), (n18, .cells [.int .i64 ((B : Nat) : Int), .int .i64 ((N : Nat) : Int), .int .i64 ((M : Nat) : Int)] true)] ++ (accM (a) (fs) ++ [])) ∧ (Mono X Y) ∧ (RowV Y fd data) ∧ (ZsV Y (.sl oid ooff 1 zs.length ocap) zs) ∧ (ObjV Y o B N M bl) ∧ (atA Y oid (ooff + gi) (.int .i64 zs[gi])) ∧ (RecsV B N M Y lr rs) ∧ (AccF 10 a fs) ∧ (Cat (RecV B N M Y) 10 nl fs) ∧ (∀ r ∈ nl, Own N bl r) ∧ (RcOk B N M nl) ∧ (nl.length ≤ b * 13)) ⟨Y, .sl0, [], [], getsL_spec (ts := [0, 3, 10, 11, 13, 14, 15, 16, 17]) (by kernel_rfl), s55, (hm0), (hd), (ho), (hO), (hat), (hlr), (AccF.nil 10), (rfl), (fun _ h => by cases h), (fun _ h => by cases h), (by simp)⟩ (fun b A H56 n57 hi hI => ?_) (fun A H56 n57 hI => ?_)
          · skip
            obtain ⟨Y, a, fs, nl, hT, s58, hm0, hd, ho, hO, hat, hlr, ha, hc, hnown, hnok, hnl⟩ := hI
            refine To.keep _ ?_ hT.sub
            have hb := hi
            have hkb := (kS_all hS).2.2 b hi
            refine To.seq (by kernel_rfl) ?_
            refine To.seq (by kernel_rfl) ?_
            refine To.region (by kernel_rfl) ?_
            refine Sg.go 1 (by kernel_rfl) ?_
            refine Sg.op (some 70) (by kernel_rfl) (jLoadAE (off := 0) (sz := 3) (c := [.int .i64 ((B : Nat) : Int), .int .i64 ((N : Nat) : Int), .int .i64 ((M : Nat) : Int)]) (s58.at 1 rfl) (by simp) rfl (by kernel_rfl)) ?_
            obtain ⟨_, X59, n60, hc61, hm62, ht63, rfl⟩ := (blocks_pure hS s58.topX : PureC 10 [.u (.agg [.int .i64 ((B : Nat) : Int), .int .i64 ((N : Nat) : Int), .int .i64 ((M : Nat) : Int)])] Y (n57) _)
            obtain ⟨H64, hc65, s66⟩ := s58.call hc61 hm62 ht63
            have hm0 := hm0.tr hm62
            have hlr := hlr.mono RecV.mono hm62
            have hc := hc.mono fun _ _ h => h.mono _ _ _ _ hm62
            have hat := hat.mono (hm62 _)
            have hd := hd.mono hm62
            have ho := ho.mono hm62
            have hO := hO.mono hm62
            refine Sg.op (some 71) (by kernel_rfl) (jCall (by kernel_rfl) hc65 (by kernel_rfl)) ?_
            refine Sg.op (some 72) (by kernel_rfl) (jBin (b_lssT .i64 (x := ((b : Nat) : Int)) (y := ((blkS B N M : Nat) : Int)) (by omega)) (by kernel_rfl)) ?_
            refine Sg.done (by kernel_rfl) ?_
            show To Tryz.prog 3 [1, 0, 0, 0, 1, 0, 1, 0, 0, 1, 0, 0, 1, 0, 1, 1, 1, 1, 1, 1, 1, 1] _ _ _ _
            refine To.ifT (by kernel_rfl) (by kernel_rfl) ?_
            refine To.skip (by kernel_rfl) ?_
            show To Tryz.prog 3 [1, 0, 0, 1, 0, 1, 0, 0, 1, 0, 0, 1, 0, 1, 1, 1, 1, 1, 1, 1, 1] _ _ _ _
            refine To.seq (by kernel_rfl) ?_
            refine To.block 3 (by kernel_rfl) ?_
            refine To.seq (by kernel_rfl) ?_
            refine To.region (by kernel_rfl) ?_
            refine Sg.go 1 (by kernel_rfl) ?_
            refine Sg.done (by kernel_rfl) ?_
            show To Tryz.prog 3 [1, 0, 0, 1, 0, 0, 1, 0, 1, 0, 0, 1, 0, 0, 1, 0, 1, 1, 1, 1, 1, 1, 1, 1] _ _ _ _
            refine To.block 4 (by kernel_rfl) ?_
            refine To.loop (by kernel_rfl) ?_
            refine ToL.for (kS B N M b + 5) (fun e A Hq nq => ∃ (Y : Heap) (a : F) (fs : List F) (nl : List Rc), AtL A [(0, vf (fd)), (3, vf (.sl (oid) (ooff) 1 (zs.length) ocap)), (10, vf (.ptr (n18) (0))), (11, vf (.ptr (o) (0))), (13, vf (.ptr (n32) (0))), (14, vf (lr)), (15, vf (.int .i64 ((gi : Nat) : Int))), (16, vf (a)), (17, vf (.int .i64 ((b : Nat) : Int))), (18, vf (.int .i64 ((e : Nat) : Int)))] ∧ Sep Y Hq nq ([(n32, .cells [.int .i64 1, .int .i64 1] true), (n18, .cells [.int .i64 ((B : Nat) : Int), .int .i64 ((N : Nat) : Int), .int .i64 ((M : Nat) : Int)] true)] ++ (accM (a) (fs) ++ [])) ∧ (Mono X Y) ∧ (RowV Y fd data) ∧ (ZsV Y (.sl oid ooff 1 zs.length ocap) zs) ∧ (ObjV Y o B N M bl) ∧ (atA Y oid (ooff + gi) (.int .i64 zs[gi])) ∧ (RecsV B N M Y lr rs) ∧ (AccF 10 a fs) ∧ (Cat (RecV B N M Y) 10 nl fs) ∧ (∀ r ∈ nl, Own N bl r) ∧ (RcOk B N M nl) ∧ (nl.length ≤ b * 13 + e)) ⟨X59, _, _, _, getsL_spec (ts := [0, 3, 10, 11, 13, 14, 15, 16, 17, 18]) (by kernel_rfl), s66, (hm0), (hd), (ho), (hO), (hat), (hlr), (ha), (hc), (hnown), (hnok), (by omega)⟩ (fun e A H67 n68 hi hI => ?_) (fun A H67 n68 hI => ?_)
            · skip
              obtain ⟨Y, a, fs, nl, hT, s69, hm0, hd, ho, hO, hat, hlr, ha, hc, hnown, hnok, hnl⟩ := hI
              refine To.keep _ ?_ hT.sub
              have he13 : e < 13 := by omega
              have hpt := parts_t hkb.1 hkb.2 hgi4 he13
              have hxe := (esi_mem hgi4 he13).2
              have hfs := hc.len
              obtain ⟨w0, hw0⟩ := shr_any zs[gi] (e &&& 15)
              obtain ⟨m1, hmz1, hmz2⟩ := and1 w0
              have hand : e &&& 15 ≤ 15 := Nat.and_le_right
              refine To.seq (by kernel_rfl) ?_
              refine To.seq (by kernel_rfl) ?_
              refine To.region (by kernel_rfl) ?_
              refine Sg.go 1 (by kernel_rfl) ?_
              refine Sg.op (some 76) (by kernel_rfl) (jLoadAE (off := 0) (sz := 3) (c := [.int .i64 ((B : Nat) : Int), .int .i64 ((N : Nat) : Int), .int .i64 ((M : Nat) : Int)]) (s69.at 1 rfl) (by simp) rfl (by kernel_rfl)) ?_
              refine Sg.go 1 (by kernel_rfl) ?_
              obtain ⟨_, X70, n71, hc72, hm73, ht74, rfl⟩ := (k_pure hS hb s69.topX : PureC 11 [.u (.agg [.int .i64 ((B : Nat) : Int), .int .i64 ((N : Nat) : Int), .int .i64 ((M : Nat) : Int)]), vf (.int .i64 ((b : Nat) : Int))] Y (n68) _)
              obtain ⟨H75, hc76, s77⟩ := s69.call hc72 hm73 ht74
              have hm0 := hm0.tr hm73
              have hlr := hlr.mono RecV.mono hm73
              have hc := hc.mono fun _ _ h => h.mono _ _ _ _ hm73
              have hat := hat.mono (hm73 _)
              have hd := hd.mono hm73
              have ho := ho.mono hm73
              have hO := hO.mono hm73
              refine Sg.op (some 78) (by kernel_rfl) (jCall (by kernel_rfl) hc76 (by kernel_rfl)) ?_
              refine Sg.op (some 79) (by kernel_rfl) (jBin (b_addN (kS B N M b) (5) (by omega)) (by kernel_rfl)) ?_
              refine Sg.op (some 80) (by kernel_rfl) (jBin (b_lssT .i64 (x := ((e : Nat) : Int)) (y := ((kS B N M b + 5 : Nat) : Int)) (by omega)) (by kernel_rfl)) ?_
              refine Sg.done (by kernel_rfl) ?_
              show To Tryz.prog 3 [1, 0, 0, 0, 1, 0, 0, 1, 0, 0, 1, 0, 1, 0, 0, 1, 0, 0, 1, 0, 1, 1, 1, 1, 1, 1, 1, 1] _ _ _ _
              refine To.ifT (by kernel_rfl) (by kernel_rfl) ?_
              refine To.skip (by kernel_rfl) ?_
              show To Tryz.prog 3 [1, 0, 0, 1, 0, 0, 1, 0, 0, 1, 0, 1, 0, 0, 1, 0, 0, 1, 0, 1, 1, 1, 1, 1, 1, 1, 1] _ _ _ _
              refine To.seq (by kernel_rfl) ?_
              refine To.block 5 (by kernel_rfl) ?_
              refine To.seq (by kernel_rfl) ?_
              refine To.region (by kernel_rfl) ?_
              refine Sg.go 1 (by kernel_rfl) ?_
              refine Sg.op (some 84) (by kernel_rfl) (jBin (b_addN (gi) (2) (by omega)) (by kernel_rfl)) ?_
              refine Sg.go 1 (by kernel_rfl) ?_
              obtain ⟨_, X78, n79, hc80, hm81, ht82, rfl⟩ := (esi_pure hgi4 he13 s77.topX : PureC 12 [vf (.int .i64 ((gi + 2 : Nat) : Int)), vf (.int .i64 ((e : Nat) : Int))] X70 (n71) _)
              obtain ⟨H83, hc84, s85⟩ := s77.call hc80 hm81 ht82
              have hm0 := hm0.tr hm81
              have hlr := hlr.mono RecV.mono hm81
              have hc := hc.mono fun _ _ h => h.mono _ _ _ _ hm81
              have hat := hat.mono (hm81 _)
              have hd := hd.mono hm81
              have ho := ho.mono hm81
              have hO := hO.mono hm81
              refine Sg.op (some 86) (by kernel_rfl) (jCall (by kernel_rfl) hc84 (by kernel_rfl)) ?_
              refine Sg.go 1 (by kernel_rfl) ?_
              refine Sg.done (by kernel_rfl) ?_
              show To Tryz.prog 3 [1, 0, 0, 1, 0, 0, 1, 0, 0, 1, 0, 0, 1, 0, 1, 0, 0, 1, 0, 0, 1, 0, 1, 1, 1, 1, 1, 1, 1, 1] _ _ _ _
              refine To.seq (by kernel_rfl) ?_
              refine To.region (by kernel_rfl) ?_
              refine Sg.op (some 88) (by kernel_rfl) (jLoadAE (off := 0) (sz := 2) (c := [.int .i64 1, .int .i64 1]) (s85.at 0 rfl) (by simp) rfl (by kernel_rfl)) ?_
              refine Sg.op (some 89) (by kernel_rfl) (jLoadAE (off := 0) (sz := 3) (c := [.int .i64 ((B : Nat) : Int), .int .i64 ((N : Nat) : Int), .int .i64 ((M : Nat) : Int)]) (s85.at 1 rfl) (by simp) rfl (by kernel_rfl)) ?_
              refine Sg.go 3 (by kernel_rfl) ?_
              obtain ⟨v, Xq, nq, hc2, hm2, ht2, hf⟩ := fresh_pure (x := esiN gi e) (b := b) data bl rs hS hb8 hB hbl hA hlr hok hown hlen hb hpt hxe s85.topX
              rcases hf with ⟨g, d, rfl, how2, hg, hrw⟩ | ⟨rfl, i2, hi2, hu⟩
              · skip
                obtain ⟨_, X86, n87, hc88, hm89, ht90, ⟨rfl, rfl⟩⟩ := (PureC.keep hc2 hm2 ht2 : PureC 13 [.u (.agg [.int .i64 1, .int .i64 1]), .u (.agg [.int .i64 ((B : Nat) : Int), .int .i64 ((N : Nat) : Int), .int .i64 ((M : Nat) : Int)]), vf (.int .i64 ((b : Nat) : Int)), vf (.int .i64 ((esiN gi e : Nat) : Int)), vf (.int .i64 90), vf (lr)] X78 (n79) _)
                obtain ⟨H91, hc92, s93⟩ := s85.call hc88 hm89 ht90
                have hm0 := hm0.tr hm89
                have hlr := hlr.mono RecV.mono hm89
                have hc := hc.mono fun _ _ h => h.mono _ _ _ _ hm89
                have hat := hat.mono (hm89 _)
                have hd := hd.mono hm89
                have ho := ho.mono hm89
                have hO := hO.mono hm89
                refine Sg.op (some 93) (by kernel_rfl) (jCall (by kernel_rfl) hc92 (by kernel_rfl)) ?_
                refine Sg.go 3 (by kernel_rfl) ?_
                obtain ⟨H94, s95, J96⟩ := jNewM s93 (.cells [.int .i64 0, .int .i64 0, .int .i64 0, .int .i64 0, .int .i64 0, .int .i64 0, .int .i64 0, .bool false, .int .i64 0, .sl0] true)
                refine Sg.op (some 20) (by kernel_rfl) (J96 _ _ (vf (.ptr (n87) (0))) (by kernel_rfl)) ?_
                obtain ⟨H97, s98, J99⟩ := jSet (off := 0) (new := [.int .i64 1, .int .i64 1, .int .i64 ((B : Nat) : Int), .int .i64 ((N : Nat) : Int), .int .i64 ((M : Nat) : Int), .int .i64 ((b : Nat) : Int), .int .i64 ((esiN gi e : Nat) : Int), .bool false, .int .i64 90, g]) (cs' := [.int .i64 1, .int .i64 1, .int .i64 ((B : Nat) : Int), .int .i64 ((N : Nat) : Int), .int .i64 ((M : Nat) : Int), .int .i64 ((b : Nat) : Int), .int .i64 ((esiN gi e : Nat) : Int), .bool false, .int .i64 90, g]) s95 0 rfl (by simp) rfl
                have s98 : Sep X86 H97 (n87 + 1) ([(n87, .cells [.int .i64 1, .int .i64 1, .int .i64 ((B : Nat) : Int), .int .i64 ((N : Nat) : Int), .int .i64 ((M : Nat) : Int), .int .i64 ((b : Nat) : Int), .int .i64 ((esiN gi e : Nat) : Int), .bool false, .int .i64 90, g] true), (n32, .cells [.int .i64 1, .int .i64 1] true), (n18, .cells [.int .i64 ((B : Nat) : Int), .int .i64 ((N : Nat) : Int), .int .i64 ((M : Nat) : Int)] true)] ++ (accM (a) (fs) ++ [])) := s98
                refine Sg.op none (by kernel_rfl) (J99 _ _ (by kernel_rfl)) ?_
                refine Sg.go 1 (by kernel_rfl) ?_
                refine Sg.done (by kernel_rfl) ?_
                show To Tryz.prog 3 [1, 1, 0, 0, 1, 0, 0, 1, 0, 0, 1, 0, 0, 1, 0, 1, 0, 0, 1, 0, 0, 1, 0, 1, 1, 1, 1, 1, 1, 1, 1] _ _ _ _
                refine To.seq (by kernel_rfl) ?_
                refine To.seq (by kernel_rfl) ?_
                refine To.region (by kernel_rfl) ?_
                refine Sg.go 1 (by kernel_rfl) ?_
                refine Sg.op (some 97) (by kernel_rfl) (jBin (b_eqlF .i64 (x := (0 : Int)) (y := (4 : Int)) (by omega)) (by kernel_rfl)) ?_
                refine Sg.done (by kernel_rfl) ?_
                show To Tryz.prog 3 [1, 0, 1, 1, 0, 0, 1, 0, 0, 1, 0, 0, 1, 0, 0, 1, 0, 1, 0, 0, 1, 0, 0, 1, 0, 1, 1, 1, 1, 1, 1, 1, 1] _ _ _ _
                refine To.ifF (by kernel_rfl) (by kernel_rfl) ?_
                refine To.skip (by kernel_rfl) ?_
                show To Tryz.prog 3 [1, 1, 1, 0, 0, 1, 0, 0, 1, 0, 0, 1, 0, 0, 1, 0, 1, 0, 0, 1, 0, 0, 1, 0, 1, 1, 1, 1, 1, 1, 1, 1] _ _ _ _
                refine To.seq (by kernel_rfl) ?_
                refine To.region (by kernel_rfl) ?_
                refine Sg.go 3 (by kernel_rfl) ?_
                obtain ⟨_, X100, n101, hc102, hm103, ht104, ⟨g2, d2, rfl, how3, hg2, _⟩⟩ := (osym_pure data bl hS hb8 hO hbl hA hb hpt hxe s98.topX : PureC 14 [vf (.ptr (o) (0)), vf (.int .i64 ((b : Nat) : Int)), vf (.int .i64 ((esiN gi e : Nat) : Int))] X86 (n87 + 1) _)
                obtain ⟨H105, hc106, s107⟩ := s98.call hc102 hm103 ht104
                have hm0 := hm0.tr hm103
                have hlr := hlr.mono RecV.mono hm103
                have hc := hc.mono fun _ _ h => h.mono _ _ _ _ hm103
                have hat := hat.mono (hm103 _)
                have hd := hd.mono hm103
                have ho := ho.mono hm103
                have hO := hO.mono hm103
                have hg := hg.mono hm103
                refine Sg.op (some 104) (by kernel_rfl) (jCall (by kernel_rfl) hc106 (by kernel_rfl)) ?_
                obtain rfl : d2 = d := own_one how3 how2
                refine Sg.go 5 (by kernel_rfl) ?_
                refine Sg.done (by kernel_rfl) ?_
                show To Tryz.prog 3 [1, 1, 1, 1, 0, 0, 1, 0, 0, 1, 0, 0, 1, 0, 0, 1, 0, 1, 0, 0, 1, 0, 0, 1, 0, 1, 1, 1, 1, 1, 1, 1, 1] _ _ _ _
                refine To.seq (by kernel_rfl) ?_
                refine To.seq (by kernel_rfl) ?_
                refine To.region (by kernel_rfl) ?_
                refine Sg.go 1 (by kernel_rfl) ?_
                refine Sg.op (some 108) (by kernel_rfl) (jBin (b_neqF .i64 (x := (0 : Int)) (y := (0 : Int)) (by omega)) (by kernel_rfl)) ?_
                refine Sg.go 2 (by kernel_rfl) ?_
                refine Sg.op (some 111) (by kernel_rfl) (jBin (b_neqF .i64 (x := (0 : Int)) (y := (0 : Int)) (by omega)) (by kernel_rfl)) ?_
                refine Sg.go 2 (by kernel_rfl) ?_
                refine Sg.op (some 114) (by kernel_rfl) (jLoadAE (off := 0) (sz := 10) (c := [.int .i64 1, .int .i64 1, .int .i64 ((B : Nat) : Int), .int .i64 ((N : Nat) : Int), .int .i64 ((M : Nat) : Int), .int .i64 ((b : Nat) : Int), .int .i64 ((esiN gi e : Nat) : Int), .bool false, .int .i64 90, g]) (s107.at 0 rfl) (by simp) rfl (by kernel_rfl)) ?_
                refine Sg.op (some 115) (by kernel_rfl) (jLoadAE (off := 0) (sz := 2) (c := [.int .i64 1, .int .i64 1]) (s107.at 1 rfl) (by simp) rfl (by kernel_rfl)) ?_
                refine Sg.op (some 116) (by kernel_rfl) (jLoadAE (off := 0) (sz := 3) (c := [.int .i64 ((B : Nat) : Int), .int .i64 ((N : Nat) : Int), .int .i64 ((M : Nat) : Int)]) (s107.at 2 rfl) (by simp) rfl (by kernel_rfl)) ?_
                refine Sg.go 4 (by kernel_rfl) ?_
                obtain ⟨_, X108, n109, hc110, hm111, ht112, rfl⟩ := (same_pure (x := esiN gi e) d2 hg hg2 s107.topX : PureC 15 [.u (.agg [.int .i64 1, .int .i64 1, .int .i64 ((B : Nat) : Int), .int .i64 ((N : Nat) : Int), .int .i64 ((M : Nat) : Int), .int .i64 ((b : Nat) : Int), .int .i64 ((esiN gi e : Nat) : Int), .bool false, .int .i64 90, g]), .u (.agg [.int .i64 1, .int .i64 1, .int .i64 ((B : Nat) : Int), .int .i64 ((N : Nat) : Int), .int .i64 ((M : Nat) : Int), .int .i64 ((b : Nat) : Int), .int .i64 ((esiN gi e : Nat) : Int), .bool false, .int .i64 90, g2])] X100 (n101) _)
                obtain ⟨H113, hc114, s115⟩ := s107.call hc110 hm111 ht112
                have hm0 := hm0.tr hm111
                have hlr := hlr.mono RecV.mono hm111
                have hc := hc.mono fun _ _ h => h.mono _ _ _ _ hm111
                have hat := hat.mono (hm111 _)
                have hd := hd.mono hm111
                have ho := ho.mono hm111
                have hO := hO.mono hm111
                have hg := hg.mono hm111
                have hg2 := hg2.mono hm111
                refine Sg.op (some 121) (by kernel_rfl) (jCall (by kernel_rfl) hc114 (by kernel_rfl)) ?_
                refine Sg.go 2 (by kernel_rfl) ?_
                refine Sg.done (by kernel_rfl) ?_
                show To Tryz.prog 3 [1, 0, 1, 1, 1, 1, 0, 0, 1, 0, 0, 1, 0, 0, 1, 0, 0, 1, 0, 1, 0, 0, 1, 0, 0, 1, 0, 1, 1, 1, 1, 1, 1, 1, 1] _ _ _ _
                refine To.ifF (by kernel_rfl) (by kernel_rfl) ?_
                refine To.skip (by kernel_rfl) ?_
                show To Tryz.prog 3 [1, 1, 1, 1, 1, 0, 0, 1, 0, 0, 1, 0, 0, 1, 0, 0, 1, 0, 1, 0, 0, 1, 0, 0, 1, 0, 1, 1, 1, 1, 1, 1, 1, 1] _ _ _ _
                refine To.seq (by kernel_rfl) ?_
                refine To.region (by kernel_rfl) ?_
                refine Sg.go 2 (by kernel_rfl) ?_
                refine Sg.op (some 126) (by kernel_rfl) (jIdx (id := oid) (off := ooff) (sz := 1) (len := zs.length) (k := gi) (by omega) (by kernel_rfl)) ?_
                refine Sg.op (some 127) (by kernel_rfl) (jLoadX (id := oid) (off := ooff + gi * 1) (x := .int .i64 zs[gi]) (by rw [Nat.mul_one]; exact hat.mono (s115.mono _)) (by kernel_rfl)) ?_
                refine Sg.go 1 (by kernel_rfl) ?_
                refine Sg.op (some 129) (by kernel_rfl) (jBin (b_and .i64 e 15 (show e ≤ 9223372036854775807 by omega) (show 15 ≤ 9223372036854775807 by omega)) (by kernel_rfl)) ?_
                refine Sg.op (some 130) (by kernel_rfl) (jConv (k := .u64) (x := ((e &&& 15 : Nat) : Int)) (z := ((e &&& 15 : Nat) : Int)) (wrap_id (by omega) (show ((e &&& 15 : Nat) : Int) ≤ ((18446744073709551615 : Nat) : Int) by omega)) (by kernel_rfl)) ?_
                refine Sg.op (some 131) (by kernel_rfl) (jBin (op := .shr) (a := vf (.int .i64 zs[gi])) (b := vf (.int .u64 ((e &&& 15 : Nat) : Int))) (z := .int .i64 w0) hw0 (by kernel_rfl)) ?_
                refine Sg.op (some 132) (by kernel_rfl) (jBin (op := .and) (a := vf (.int .i64 w0)) (b := vf (.int .i64 1)) hmz2 (by kernel_rfl)) ?_
                by_cases hm3 : m1 = 0
                · skip
                  refine Sg.op (some 133) (by kernel_rfl) (jBin (b_eqlT .i64 (x := ((m1 : Nat) : Int)) (y := (0 : Int)) (by omega)) (by kernel_rfl)) ?_
                  refine Sg.done (by kernel_rfl) ?_
                  show To Tryz.prog 3 [1, 1, 1, 1, 1, 1, 0, 0, 1, 0, 0, 1, 0, 0, 1, 0, 0, 1, 0, 1, 0, 0, 1, 0, 0, 1, 0, 1, 1, 1, 1, 1, 1, 1, 1] _ _ _ _
                  refine To.ifT (by kernel_rfl) (by kernel_rfl) ?_
                  refine To.region (by kernel_rfl) ?_
                  refine Sg.go 1 (by kernel_rfl) ?_
                  refine Sg.op (some 135) (by kernel_rfl) (jLoadAE (off := 0) (sz := 10) (c := [.int .i64 1, .int .i64 1, .int .i64 ((B : Nat) : Int), .int .i64 ((N : Nat) : Int), .int .i64 ((M : Nat) : Int), .int .i64 ((b : Nat) : Int), .int .i64 ((esiN gi e : Nat) : Int), .bool false, .int .i64 90, g]) (s115.at 0 rfl) (by simp) rfl (by kernel_rfl)) ?_
                  obtain ⟨X116, H117, s118, m119, f120, J121⟩ := jNewF s115 (.cells [.int .i64 1, .int .i64 1, .int .i64 ((B : Nat) : Int), .int .i64 ((N : Nat) : Int), .int .i64 ((M : Nat) : Int), .int .i64 ((b : Nat) : Int), .int .i64 ((esiN gi e : Nat) : Int), .bool false, .int .i64 90, g] true)
                  have hm0 := hm0.tr m119
                  have hlr := hlr.mono RecV.mono m119
                  have hc := hc.mono fun _ _ h => h.mono _ _ _ _ m119
                  have hat := hat.mono (m119 _)
                  have hd := hd.mono m119
                  have ho := ho.mono m119
                  have hO := hO.mono m119
                  have hg := hg.mono m119
                  have hg2 := hg2.mono m119
                  refine Sg.op (some 136) (by kernel_rfl) (J121 _ _ (vf (.sl (n109) (0) 10 (1) none)) (by kernel_rfl)) ?_
                  obtain ⟨a122, H123, n124, ha125, s126, J127⟩ := jAcc (sz := 10) (bytes := 96) (x := .sl (n109) (0) 10 (1) none) (fs := fs) (new := [.int .i64 1, .int .i64 1, .int .i64 ((B : Nat) : Int), .int .i64 ((N : Nat) : Int), .int .i64 ((M : Nat) : Int), .int .i64 ((b : Nat) : Int), .int .i64 ((esiN gi e : Nat) : Int), .bool false, .int .i64 90, g]) (M1 := [(n87, .cells [.int .i64 1, .int .i64 1, .int .i64 ((B : Nat) : Int), .int .i64 ((N : Nat) : Int), .int .i64 ((M : Nat) : Int), .int .i64 ((b : Nat) : Int), .int .i64 ((esiN gi e : Nat) : Int), .bool false, .int .i64 90, g] true), (n32, .cells [.int .i64 1, .int .i64 1] true), (n18, .cells [.int .i64 ((B : Nat) : Int), .int .i64 ((N : Nat) : Int), .int .i64 ((M : Nat) : Int)] true)]) (M2 := []) s118 ha (row_all (s118.mono _ _ f120) rfl) (rfl) (by omega) (by omega)
                  refine Sg.op (some 137) (by kernel_rfl) (J127 _ _ (by kernel_rfl)) ?_
                  refine Sg.go 1 (by kernel_rfl) ?_
                  refine Sg.done (by kernel_rfl) ?_
                  show To Tryz.prog 3 [1, 1, 0, 0, 1, 0, 0, 1, 0, 0, 1, 0, 1, 0, 0, 1, 0, 0, 1, 0, 1, 1, 1, 1, 1, 1, 1, 1] _ _ _ _
                  refine To.region (by kernel_rfl) ?_
                  refine Sg.go 1 (by kernel_rfl) ?_
                  refine Sg.op (some 82) (by kernel_rfl) (jBin (b_addN (e) (1) (by omega)) (by kernel_rfl)) ?_
                  refine Sg.go 1 (by kernel_rfl) ?_
                  refine Sg.done (by kernel_rfl) ?_
                  exact .inl ⟨rfl, X116, _, _, nl ++ [⟨b, esiN gi e, d2⟩], getsL_spec (ts := [0, 3, 10, 11, 13, 14, 15, 16, 17, 18]) (by kernel_rfl), (s126.del 0), (hm0), (hd), (ho), (hO), (hat), (hlr), (ha125), (hc.snoc ⟨g, rfl, hg⟩ rfl), (fun r hr => by
                    rcases List.mem_append.1 hr with h | h
                    · exact hnown r h
                    · rw [List.mem_singleton.1 h]; exact how2), (fun r hr => by
                    rcases List.mem_append.1 hr with h | h
                    · exact hnok r h
                    · rw [List.mem_singleton.1 h]; exact ⟨hpt, hxe, hrw⟩), (by simp; omega)⟩
                · skip
                  refine Sg.op (some 133) (by kernel_rfl) (jBin (b_eqlF .i64 (x := ((m1 : Nat) : Int)) (y := (0 : Int)) (by omega)) (by kernel_rfl)) ?_
                  refine Sg.done (by kernel_rfl) ?_
                  show To Tryz.prog 3 [1, 1, 1, 1, 1, 1, 0, 0, 1, 0, 0, 1, 0, 0, 1, 0, 0, 1, 0, 1, 0, 0, 1, 0, 0, 1, 0, 1, 1, 1, 1, 1, 1, 1, 1] _ _ _ _
                  refine To.ifF (by kernel_rfl) (by kernel_rfl) ?_
                  refine To.skip (by kernel_rfl) ?_
                  show To Tryz.prog 3 [1, 1, 0, 0, 1, 0, 0, 1, 0, 0, 1, 0, 1, 0, 0, 1, 0, 0, 1, 0, 1, 1, 1, 1, 1, 1, 1, 1] _ _ _ _
                  refine To.region (by kernel_rfl) ?_
                  refine Sg.go 1 (by kernel_rfl) ?_
                  refine Sg.op (some 82) (by kernel_rfl) (jBin (b_addN (e) (1) (by omega)) (by kernel_rfl)) ?_
                  refine Sg.go 1 (by kernel_rfl) ?_
                  refine Sg.done (by kernel_rfl) ?_
                  exact .inl ⟨rfl, X108, _, _, _, getsL_spec (ts := [0, 3, 10, 11, 13, 14, 15, 16, 17, 18]) (by kernel_rfl), (s115.del 0), (hm0), (hd), (ho), (hO), (hat), (hlr), (ha), (hc), (hnown), (hnok), (by omega)⟩
              · skip
                obtain ⟨_, X128, n129, hc130, hm131, ht132, ⟨rfl, rfl⟩⟩ := (PureC.keep hc2 hm2 ht2 : PureC 13 [.u (.agg [.int .i64 1, .int .i64 1]), .u (.agg [.int .i64 ((B : Nat) : Int), .int .i64 ((N : Nat) : Int), .int .i64 ((M : Nat) : Int)]), vf (.int .i64 ((b : Nat) : Int)), vf (.int .i64 ((esiN gi e : Nat) : Int)), vf (.int .i64 90), vf (lr)] X78 (n79) _)
                obtain ⟨H133, hc134, s135⟩ := s85.call hc130 hm131 ht132
                have hm0 := hm0.tr hm131
                have hlr := hlr.mono RecV.mono hm131
                have hc := hc.mono fun _ _ h => h.mono _ _ _ _ hm131
                have hat := hat.mono (hm131 _)
                have hd := hd.mono hm131
                have ho := ho.mono hm131
                have hO := hO.mono hm131
                refine Sg.op (some 93) (by kernel_rfl) (jCall (by kernel_rfl) hc134 (by kernel_rfl)) ?_
                by_cases hg0 : 0 < gi
                · skip
                  refine Sg.go 3 (by kernel_rfl) ?_
                  obtain ⟨H136, s137, J138⟩ := jNewM s135 (.cells [.int .i64 0, .int .i64 0, .int .i64 0, .int .i64 0, .int .i64 0, .int .i64 0, .int .i64 0, .bool false, .int .i64 0, .sl0] true)
                  refine Sg.op (some 20) (by kernel_rfl) (J138 _ _ (vf (.ptr (n129) (0))) (by kernel_rfl)) ?_
                  obtain ⟨H139, s140, J141⟩ := jSet (off := 0) (new := [.int .i64 0, .int .i64 0, .int .i64 0, .int .i64 0, .int .i64 0, .int .i64 0, .int .i64 0, .bool false, .int .i64 0, .sl0]) (cs' := [.int .i64 0, .int .i64 0, .int .i64 0, .int .i64 0, .int .i64 0, .int .i64 0, .int .i64 0, .bool false, .int .i64 0, .sl0]) s137 0 rfl (by simp) rfl
                  have s140 : Sep X128 H139 (n129 + 1) ([(n129, .cells [.int .i64 0, .int .i64 0, .int .i64 0, .int .i64 0, .int .i64 0, .int .i64 0, .int .i64 0, .bool false, .int .i64 0, .sl0] true), (n32, .cells [.int .i64 1, .int .i64 1] true), (n18, .cells [.int .i64 ((B : Nat) : Int), .int .i64 ((N : Nat) : Int), .int .i64 ((M : Nat) : Int)] true)] ++ (accM (a) (fs) ++ [])) := s140
                  refine Sg.op none (by kernel_rfl) (J141 _ _ (by kernel_rfl)) ?_
                  refine Sg.go 1 (by kernel_rfl) ?_
                  refine Sg.done (by kernel_rfl) ?_
                  show To Tryz.prog 3 [1, 1, 0, 0, 1, 0, 0, 1, 0, 0, 1, 0, 0, 1, 0, 1, 0, 0, 1, 0, 0, 1, 0, 1, 1, 1, 1, 1, 1, 1, 1] _ _ _ _
                  refine To.seq (by kernel_rfl) ?_
                  refine To.seq (by kernel_rfl) ?_
                  refine To.region (by kernel_rfl) ?_
                  refine Sg.go 1 (by kernel_rfl) ?_
                  refine Sg.op (some 97) (by kernel_rfl) (jBin (b_eqlT .i64 (x := (4 : Int)) (y := (4 : Int)) (by omega)) (by kernel_rfl)) ?_
                  refine Sg.done (by kernel_rfl) ?_
                  show To Tryz.prog 3 [1, 0, 1, 1, 0, 0, 1, 0, 0, 1, 0, 0, 1, 0, 0, 1, 0, 1, 0, 0, 1, 0, 0, 1, 0, 1, 1, 1, 1, 1, 1, 1, 1] _ _ _ _
                  refine To.ifT (by kernel_rfl) (by kernel_rfl) ?_
                  refine To.seq (by kernel_rfl) ?_
                  refine To.region (by kernel_rfl) ?_
                  refine Sg.go 1 (by kernel_rfl) ?_
                  refine Sg.op (some 99) (by kernel_rfl) (jBin (b_gtrT .i64 (x := ((gi : Nat) : Int)) (y := (0 : Int)) (by omega)) (by kernel_rfl)) ?_
                  refine Sg.go 1 (by kernel_rfl) ?_
                  refine Sg.done (by kernel_rfl) ?_
                  show To Tryz.prog 3 [1, 0, 1, 0, 1, 1, 0, 0, 1, 0, 0, 1, 0, 0, 1, 0, 0, 1, 0, 1, 0, 0, 1, 0, 0, 1, 0, 1, 1, 1, 1, 1, 1, 1, 1] _ _ _ _
                  refine To.ret (by kernel_rfl) ?_
                  refine .inr ⟨by simp, ?_⟩
                  refine .inr ⟨by simp, ?_⟩
                  refine .inr ⟨by simp, ?_⟩
                  exact ⟨.inr rfl, _, by kernel_rfl, X128, _, s140, hm0, rfl⟩
                · skip
                  exact absurd (h0 (by omega)) (fun h => by subst h; exact gen0 hb8 hS hbl hA hi2 hu)
            · skip
              obtain ⟨Y, a, fs, nl, hT, s142, hm0, hd, ho, hO, hat, hlr, ha, hc, hnown, hnok, hnl⟩ := hI
              refine To.keep _ ?_ hT.sub
              refine To.seq (by kernel_rfl) ?_
              refine To.seq (by kernel_rfl) ?_
              refine To.region (by kernel_rfl) ?_
              refine Sg.go 1 (by kernel_rfl) ?_
              refine Sg.op (some 76) (by kernel_rfl) (jLoadAE (off := 0) (sz := 3) (c := [.int .i64 ((B : Nat) : Int), .int .i64 ((N : Nat) : Int), .int .i64 ((M : Nat) : Int)]) (s142.at 1 rfl) (by simp) rfl (by kernel_rfl)) ?_
              refine Sg.go 1 (by kernel_rfl) ?_
              obtain ⟨_, X143, n144, hc145, hm146, ht147, rfl⟩ := (k_pure hS hb s142.topX : PureC 11 [.u (.agg [.int .i64 ((B : Nat) : Int), .int .i64 ((N : Nat) : Int), .int .i64 ((M : Nat) : Int)]), vf (.int .i64 ((b : Nat) : Int))] Y (n68) _)
              obtain ⟨H148, hc149, s150⟩ := s142.call hc145 hm146 ht147
              have hm0 := hm0.tr hm146
              have hlr := hlr.mono RecV.mono hm146
              have hc := hc.mono fun _ _ h => h.mono _ _ _ _ hm146
              have hat := hat.mono (hm146 _)
              have hd := hd.mono hm146
              have ho := ho.mono hm146
              have hO := hO.mono hm146
              refine Sg.op (some 78) (by kernel_rfl) (jCall (by kernel_rfl) hc149 (by kernel_rfl)) ?_
              refine Sg.op (some 79) (by kernel_rfl) (jBin (b_addN (kS B N M b) (5) (by omega)) (by kernel_rfl)) ?_
              refine Sg.op (some 80) (by kernel_rfl) (jBin (b_lssF .i64 (x := (((kS B N M b + 5) : Nat) : Int)) (y := ((kS B N M b + 5 : Nat) : Int)) (by omega)) (by kernel_rfl)) ?_
              refine Sg.done (by kernel_rfl) ?_
              show To Tryz.prog 3 [1, 0, 0, 0, 1, 0, 0, 1, 0, 0, 1, 0, 1, 0, 0, 1, 0, 0, 1, 0, 1, 1, 1, 1, 1, 1, 1, 1] _ _ _ _
              refine To.ifF (by kernel_rfl) (by kernel_rfl) ?_
              refine To.exit 4 (by kernel_rfl) ?_
              refine ⟨by simp, ?_⟩
              show To Tryz.prog 3 [1, 1, 0, 0, 1, 0, 1, 0, 0, 1, 0, 0, 1, 0, 1, 1, 1, 1, 1, 1, 1, 1] _ _ _ _
              refine To.region (by kernel_rfl) ?_
              refine Sg.go 1 (by kernel_rfl) ?_
              refine Sg.op (some 74) (by kernel_rfl) (jBin (b_addN (b) (1) (by omega)) (by kernel_rfl)) ?_
              refine Sg.go 1 (by kernel_rfl) ?_
              refine Sg.done (by kernel_rfl) ?_
              exact .inl ⟨rfl, X143, _, _, _, getsL_spec (ts := [0, 3, 10, 11, 13, 14, 15, 16, 17]) (by kernel_rfl), s150, (hm0), (hd), (ho), (hO), (hat), (hlr), (ha), (hc), (hnown), (hnok), (by rw [Nat.add_mul]; omega)⟩
          · skip
            obtain ⟨Y, a, fs, nl, hT, s151, hm0, hd, ho, hO, hat, hlr, ha, hc, hnown, hnok, hnl⟩ := hI
            refine To.keep _ ?_ hT.sub
            refine To.seq (by kernel_rfl) ?_
            refine To.seq (by kernel_rfl) ?_
            refine To.region (by kernel_rfl) ?_
            refine Sg.go 1 (by kernel_rfl) ?_
            refine Sg.op (some 70) (by kernel_rfl) (jLoadAE (off := 0) (sz := 3) (c := [.int .i64 ((B : Nat) : Int), .int .i64 ((N : Nat) : Int), .int .i64 ((M : Nat) : Int)]) (s151.at 1 rfl) (by simp) rfl (by kernel_rfl)) ?_
            obtain ⟨_, X152, n153, hc154, hm155, ht156, rfl⟩ := (blocks_pure hS s151.topX : PureC 10 [.u (.agg [.int .i64 ((B : Nat) : Int), .int .i64 ((N : Nat) : Int), .int .i64 ((M : Nat) : Int)])] Y (n57) _)
            obtain ⟨H157, hc158, s159⟩ := s151.call hc154 hm155 ht156
            have hm0 := hm0.tr hm155
            have hlr := hlr.mono RecV.mono hm155
            have hc := hc.mono fun _ _ h => h.mono _ _ _ _ hm155
            have hat := hat.mono (hm155 _)
            have hd := hd.mono hm155
            have ho := ho.mono hm155
            have hO := hO.mono hm155
            refine Sg.op (some 71) (by kernel_rfl) (jCall (by kernel_rfl) hc158 (by kernel_rfl)) ?_
            refine Sg.op (some 72) (by kernel_rfl) (jBin (b_lssF .i64 (x := (((blkS B N M) : Nat) : Int)) (y := ((blkS B N M : Nat) : Int)) (by omega)) (by kernel_rfl)) ?_
            refine Sg.done (by kernel_rfl) ?_
            show To Tryz.prog 3 [1, 0, 0, 0, 1, 0, 1, 0, 0, 1, 0, 0, 1, 0, 1, 1, 1, 1, 1, 1, 1, 1] _ _ _ _
            obtain ⟨X160, m161, s162, hrow, hrowk⟩ := Sep.acc (sz := 10) (M1 := [(n32, .cells [.int .i64 1, .int .i64 1] true), (n18, .cells [.int .i64 ((B : Nat) : Int), .int .i64 ((N : Nat) : Int), .int .i64 ((M : Nat) : Int)] true)]) (M2 := []) (a := a) (fs := fs) (by simpa using s159) ha
            have hm0 := hm0.tr m161
            have hlr := hlr.mono RecV.mono m161
            have hc := hc.mono fun _ _ h => h.mono _ _ _ _ m161
            have hat := hat.mono (m161 _)
            have hd := hd.mono m161
            have ho := ho.mono m161
            have hO := hO.mono m161
            have s162 : Sep X160 H157 (n153) [(n32, .cells [.int .i64 1, .int .i64 1] true), (n18, .cells [.int .i64 ((B : Nat) : Int), .int .i64 ((N : Nat) : Int), .int .i64 ((M : Nat) : Int)] true)] := by simpa using s162
            have hnv : RecsV B N M X160 a nl := SlV.of_acc ha (by omega) hrowk hc
            refine To.ifF (by kernel_rfl) (by kernel_rfl) ?_
            refine To.exit 2 (by kernel_rfl) ?_
            refine ⟨by simp, ?_⟩
            show To Tryz.prog 3 [1, 1, 0, 0, 1, 0, 0, 1, 0, 1, 1, 1, 1, 1, 1, 1, 1] _ _ _ _
            refine To.region (by kernel_rfl) ?_
            refine Sg.go 2 (by kernel_rfl) ?_
            refine Sg.done (by kernel_rfl) ?_
            show To Tryz.prog 3 [1, 1, 0, 0, 1, 0, 1, 1, 1, 1, 1, 1, 1, 1] _ _ _ _
            refine To.region (by kernel_rfl) ?_
            refine Sg.go 1 (by kernel_rfl) ?_
            refine Sg.op (some 68) (by kernel_rfl) (jBin (b_addN (gi) (1) (by omega)) (by kernel_rfl)) ?_
            refine Sg.go 1 (by kernel_rfl) ?_
            refine Sg.done (by kernel_rfl) ?_
            exact .inl ⟨rfl, X160, _, nl, getsL_spec (ts := [0, 3, 10, 11, 13, 14, 15]) (by kernel_rfl), s162, (hm0), (hd), (ho), (hO), (hnv), (hnown), (hnok), (by omega), (fun h => by omega)⟩
        · skip
          obtain ⟨Y, lr, rs, hT, s163, hm0, hd, ho, hO, hlr, hown, hok, hlen, h0⟩ := hI
          refine To.keep _ ?_ hT.sub
          refine To.seq (by kernel_rfl) ?_
          refine To.seq (by kernel_rfl) ?_
          refine To.region (by kernel_rfl) ?_
          refine Sg.go 2 (by kernel_rfl) ?_
          refine Sg.op (some 65) (by kernel_rfl) (jLenV (l := zs.length) (ho.lenA) (by kernel_rfl)) ?_
          refine Sg.op (some 66) (by kernel_rfl) (jBin (b_lssF .i64 (x := (((zs.length) : Nat) : Int)) (y := ((zs.length : Nat) : Int)) (by simp)) (by kernel_rfl)) ?_
          refine Sg.done (by kernel_rfl) ?_
          show To Tryz.prog 3 [1, 0, 0, 0, 1, 0, 1, 1, 1, 1, 1, 1, 1, 1] _ _ _ _
          refine To.ifF (by kernel_rfl) (by kernel_rfl) ?_
          refine To.exit 0 (by kernel_rfl) ?_
          refine ⟨by simp, ?_⟩
          show To Tryz.prog 3 [1, 1, 1, 1, 1, 1, 1, 1, 1] _ _ _ _
          refine To.seq (by kernel_rfl) ?_
          refine To.region (by kernel_rfl) ?_
          refine Sg.op (some 140) (by kernel_rfl) (jLoadAE (off := 0) (sz := 3) (c := [.int .i64 ((B : Nat) : Int), .int .i64 ((N : Nat) : Int), .int .i64 ((M : Nat) : Int)]) (s163.at 1 rfl) (by simp) rfl (by kernel_rfl)) ?_
          refine Sg.go 1 (by kernel_rfl) ?_
          obtain ⟨v, Xq, nq, hc2, hm2, ht2, z, ee, rfl, hz⟩ := decode_pure rs hS hlr hok hlen s163.topX
          rcases hz with ⟨rfl, ql, hql, hD, hz, _⟩ | ⟨rfl, rfl, _⟩
          · skip
            obtain ⟨_, X164, n165, hc166, hm167, ht168, ⟨rfl, rfl⟩⟩ := (PureC.keep hc2 hm2 ht2 : PureC 16 [.u (.agg [.int .i64 ((B : Nat) : Int), .int .i64 ((N : Nat) : Int), .int .i64 ((M : Nat) : Int)]), vf (lr)] Y (n54) _)
            obtain ⟨H169, hc170, s171⟩ := s163.call hc166 hm167 ht168
            have hm0 := hm0.tr hm167
            have hlr := hlr.mono RecV.mono hm167
            have hd := hd.mono hm167
            have ho := ho.mono hm167
            have hO := hO.mono hm167
            refine Sg.op (some 142) (by kernel_rfl) (jCall (by kernel_rfl) hc170 (by kernel_rfl)) ?_
            rw [hD.data hb8 hB hS hbl hA hown hok hql] at hz
            refine Sg.go 5 (by kernel_rfl) ?_
            refine Sg.done (by kernel_rfl) ?_
            show To Tryz.prog 3 [1, 1, 1, 1, 1, 1, 1, 1, 1, 1] _ _ _ _
            refine To.seq (by kernel_rfl) ?_
            refine To.region (by kernel_rfl) ?_
            refine Sg.go 1 (by kernel_rfl) ?_
            refine Sg.op (some 146) (by kernel_rfl) (jBin (b_eqlF .i64 (x := (0 : Int)) (y := (4 : Int)) (by omega)) (by kernel_rfl)) ?_
            refine Sg.go 7 (by kernel_rfl) ?_
            refine Sg.op (some 154) (by kernel_rfl) (jBin (b_eqlT .i64 (x := (0 : Int)) (y := (0 : Int)) (by omega)) (by kernel_rfl)) ?_
            refine Sg.go 2 (by kernel_rfl) ?_
            refine Sg.op (some 157) (by kernel_rfl) (jStr (rowA_mono s171.mono hz.1) (by kernel_rfl)) ?_
            refine Sg.go 1 (by kernel_rfl) ?_
            refine Sg.op (some 159) (by kernel_rfl) (jStr (rowA_mono s171.mono hd.1) (by kernel_rfl)) ?_
            refine Sg.op (some 160) (by kernel_rfl) (jEqS (a := chars data) (b := chars data) rfl (by kernel_rfl)) ?_
            refine Sg.go 3 (by kernel_rfl) ?_
            refine Sg.done (by kernel_rfl) ?_
            show To Tryz.prog 3 [1, 1, 1, 1, 1, 1, 1, 1, 1, 1, 1] _ _ _ _
            refine To.ret (by kernel_rfl) ?_
            exact ⟨.inr rfl, _, by kernel_rfl, X164, _, s171, hm0, rfl⟩
          · skip
            obtain ⟨_, X172, n173, hc174, hm175, ht176, ⟨rfl, rfl⟩⟩ := (PureC.keep hc2 hm2 ht2 : PureC 16 [.u (.agg [.int .i64 ((B : Nat) : Int), .int .i64 ((N : Nat) : Int), .int .i64 ((M : Nat) : Int)]), vf (lr)] Y (n54) _)
            obtain ⟨H177, hc178, s179⟩ := s163.call hc174 hm175 ht176
            have hm0 := hm0.tr hm175
            have hlr := hlr.mono RecV.mono hm175
            have hd := hd.mono hm175
            have ho := ho.mono hm175
            have hO := hO.mono hm175
            refine Sg.op (some 142) (by kernel_rfl) (jCall (by kernel_rfl) hc178 (by kernel_rfl)) ?_
            refine Sg.go 5 (by kernel_rfl) ?_
            refine Sg.done (by kernel_rfl) ?_
            show To Tryz.prog 3 [1, 1, 1, 1, 1, 1, 1, 1, 1, 1] _ _ _ _
            refine To.seq (by kernel_rfl) ?_
            refine To.region (by kernel_rfl) ?_
            refine Sg.go 1 (by kernel_rfl) ?_
            refine Sg.op (some 146) (by kernel_rfl) (jBin (b_eqlT .i64 (x := (4 : Int)) (y := (4 : Int)) (by omega)) (by kernel_rfl)) ?_
            refine Sg.go 2 (by kernel_rfl) ?_
            refine Sg.op (some 149) (by kernel_rfl) (jLen (l := 0) (by kernel_rfl)) ?_
            refine Sg.op (some 150) (by kernel_rfl) (jBin (b_eqlT .i64 (x := (0 : Int)) (y := (0 : Int)) (by omega)) (by kernel_rfl)) ?_
            refine Sg.go 13 (by kernel_rfl) ?_
            refine Sg.done (by kernel_rfl) ?_
            show To Tryz.prog 3 [1, 1, 1, 1, 1, 1, 1, 1, 1, 1, 1] _ _ _ _
            refine To.ret (by kernel_rfl) ?_
            exact ⟨.inr rfl, _, by kernel_rfl, X172, _, s179, hm0, rfl⟩
      · skip
        obtain ⟨_, X180, n181, hc182, hm183, ht184, rfl⟩ := (PureC.same hc3 hm3 ht3 : PureC 8 [.u (.agg [.int .i64 ((B : Nat) : Int), .int .i64 ((N : Nat) : Int), .int .i64 ((M : Nat) : Int)]), vf (fd)] X17 (n18 + 1) _)
        obtain ⟨H185, hc186, s187⟩ := s29.call hc182 hm183 ht184
        have hm0 := hm0.tr hm183
        have ho := ho.mono hm183
        have hd := hd.mono hm183
        refine Sg.op (some 50) (by kernel_rfl) (jCall (by kernel_rfl) hc186 (by kernel_rfl)) ?_
        refine Sg.go 5 (by kernel_rfl) ?_
        refine Sg.done (by kernel_rfl) ?_
        show To Tryz.prog 3 [1, 1, 1, 1, 1] _ _ _ _
        refine To.seq (by kernel_rfl) ?_
        refine To.seq (by kernel_rfl) ?_
        refine To.region (by kernel_rfl) ?_
        refine Sg.go 1 (by kernel_rfl) ?_
        refine Sg.op (some 54) (by kernel_rfl) (jBin (b_neqT .i64 (x := (4 : Int)) (y := (0 : Int)) (by omega)) (by kernel_rfl)) ?_
        refine Sg.go 4 (by kernel_rfl) ?_
        refine Sg.done (by kernel_rfl) ?_
        show To Tryz.prog 3 [1, 0, 1, 1, 1, 1, 1] _ _ _ _
        refine To.ifT (by kernel_rfl) (by kernel_rfl) ?_
        refine To.seq (by kernel_rfl) ?_
        refine To.region (by kernel_rfl) ?_
        refine Sg.go 1 (by kernel_rfl) ?_
        refine Sg.done (by kernel_rfl) ?_
        show To Tryz.prog 3 [1, 0, 1, 0, 1, 1, 1, 1, 1] _ _ _ _
        refine To.ret (by kernel_rfl) ?_
        exact ⟨.inr rfl, _, by kernel_rfl, X180, _, s187, hm0, rfl⟩
end Go.Proofs.YtkimkgbppegkhaaGreat.Cm
