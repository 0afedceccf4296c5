/- BucketPlays: three buckets beside one another. -/
import Derived.Test.YtddchhoplomjgaaBSame
namespace Go.Proofs.Ytddchhoplomjgaa
open Go.RowKit Go.Proofs.YtddchhoplomjgaaW.PrintLast
set_option linter.unusedVariables false
set_option linter.unusedSimpArgs false
/-- the blocks of a bucket -/
def Foot (p : Nat) (v : Value) (k : Nat) : Prop := k = p ∨ v.ownBlock = some k
theorem BO.foot {W : World} {p : Nat} {ad : Option Addr} {cap : Nat} {l : List Con} (h : BO W p ad cap l) (k : Nat) (hk : Foot p (.slice ad l.length cap) k) : k < W.heap.size := by
  rcases hk with rfl | hk
  · exact lt_of_block h.blk
  · exact own_lt4 h.own hk
theorem RO.foot {W : World} {p : Nat} {ad : Option Addr} {cap : Nat} {l : List Con} (h : RO W p ad cap l) (k : Nat) (hk : Foot p (.slice ad l.length cap) k) : k < W.heap.size := by
  rcases hk with rfl | hk
  · exact lt_of_block h.blk
  · exact own_lt4 h.own hk
/-- three buckets that were made behind w1: one played, one beside, the document's own -/
structure PS (w1 wr : World) (pb po pr : Nat) (ab ao ar : Option Addr) (cb co cr : Nat) (l lo lr : List Con) : Prop where
  b : BO wr pb ab cb l
  o : BO wr po ao co lo
  r : RO wr pr ar cr lr
  sbo : ∀ k, Foot pb (.slice ab l.length cb) k → ¬ Foot po (.slice ao lo.length co) k
  sbr : ∀ k, Foot pb (.slice ab l.length cb) k → ¬ Foot pr (.slice ar lr.length cr) k
  sor : ∀ k, Foot po (.slice ao lo.length co) k → ¬ Foot pr (.slice ar lr.length cr) k
  gb : ∀ k, Foot pb (.slice ab l.length cb) k → w1.heap.size ≤ k
  go : ∀ k, Foot po (.slice ao lo.length co) k → w1.heap.size ≤ k
  gr : ∀ k, Foot pr (.slice ar lr.length cr) k → w1.heap.size ≤ k
  below : Below w1.heap.size w1 wr
section
variable {w1 wr w' : World} {pb po pr : Nat} {ab ao ar : Option Addr} {cb co cr : Nat} {l lo lr : List Con}
theorem PS.keep {F : Nat → Prop} (h : PS w1 wr pb po pr ab ao ar cb co cr l lo lr) (T : Turns F wr w') (hF : ∀ k, F k → wr.heap.size ≤ k) : PS w1 w' pb po pr ab ao ar cb co cr l lo lr :=
  ⟨h.b.keep T (fun e => by have := hF _ e; have := h.b.foot _ (.inl rfl); omega) (fun k hk e => by have := hF _ e; have := h.b.foot _ (.inr hk); omega),
   h.o.keep T (fun e => by have := hF _ e; have := h.o.foot _ (.inl rfl); omega) (fun k hk e => by have := hF _ e; have := h.o.foot _ (.inr hk); omega),
   h.r.keep T (fun e => by have := hF _ e; have := h.r.foot _ (.inl rfl); omega) (fun k hk e => by have := hF _ e; have := h.r.foot _ (.inr hk); omega),
   h.sbo, h.sbr, h.sor, h.gb, h.go, h.gr, h.below.trans (T.below h.below.size (fun k hk e => by have := hF _ e; have := h.below.size; omega))⟩
theorem PS.later (h : PS w1 wr pb po pr ab ao ar cb co cr l lo lr) (b : Below wr.heap.size wr w') : PS w1 w' pb po pr ab ao ar cb co cr l lo lr :=
  h.keep (Turns.of_below b (fun _ => False)) (fun _ e => e.elim)
theorem Fresh.foot {W : World} {p k : Nat} {v v' : Value} (h : Fresh W v v') (hk : Foot p v' k) : Foot p v k ∨ W.heap.size ≤ k := by
  rcases hk with hk | hk
  · exact .inl (.inl hk)
  · rcases h with h | ⟨q, h, hq⟩
    · exact .inl (.inr (by rw [← h]; exact hk))
    · rw [h] at hk; injection hk with hk; exact .inr (by omega)
theorem PS.stepb {r : Value} {l2 : List Con} {e : Ending} (h : PS w1 wr pb po pr ab ao ar cb co cr l lo lr) (P : BOPost wr pb (.slice ab l.length cb) r l2 e w') :
    e = .returned r ∧ ∃ ab' cb', PS w1 w' pb po pr ab' ao ar cb' co cr l2 lo lr := by
  obtain ⟨he, ad', cap', hb, T, F⟩ := P
  have hf : ∀ k, Foot pb (.slice ad' l2.length cap') k → Foot pb (.slice ab l.length cb) k ∨ wr.heap.size ≤ k := fun k hk => F.foot hk
  refine ⟨he, ad', cap', hb, h.o.keep T (fun e => h.sbo _ e (.inl rfl)) (fun k hk e => h.sbo _ e (.inr hk)), h.r.keep T (fun e => h.sbr _ e (.inl rfl)) (fun k hk e => h.sbr _ e (.inr hk)), fun k hk hk2 => ?_, fun k hk hk2 => ?_, h.sor, fun k hk => ?_, h.go, h.gr, h.below.trans (T.below h.below.size (fun k hk e => by have := h.gb k e; omega))⟩
  · rcases hf k hk with hk | hk
    · exact h.sbo k hk hk2
    · have := h.o.foot k hk2; omega
  · rcases hf k hk with hk | hk
    · exact h.sbr k hk hk2
    · have := h.r.foot k hk2; omega
  · rcases hf k hk with hk | hk
    · exact h.gb k hk
    · have := h.below.size; omega
theorem PS.stepo {r : Value} {l2 : List Con} {e : Ending} (h : PS w1 wr pb po pr ab ao ar cb co cr l lo lr) (P : BOPost wr po (.slice ao lo.length co) r l2 e w') :
    e = .returned r ∧ ∃ ao' co', PS w1 w' pb po pr ab ao' ar cb co' cr l l2 lr := by
  obtain ⟨he, ad', cap', hb, T, F⟩ := P
  have hf : ∀ k, Foot po (.slice ad' l2.length cap') k → Foot po (.slice ao lo.length co) k ∨ wr.heap.size ≤ k := fun k hk => F.foot hk
  refine ⟨he, ad', cap', h.b.keep T (fun e => h.sbo _ (.inl rfl) e) (fun k hk e => h.sbo _ (.inr hk) e), hb, h.r.keep T (fun e => h.sor _ e (.inl rfl)) (fun k hk e => h.sor _ e (.inr hk)), fun k hk2 hk => ?_, h.sbr, fun k hk hk2 => ?_, h.gb, fun k hk => ?_, h.gr, h.below.trans (T.below h.below.size (fun k hk e => by have := h.go k e; omega))⟩
  · rcases hf k hk with hk | hk
    · exact h.sbo k hk2 hk
    · have := h.b.foot k hk2; omega
  · rcases hf k hk with hk | hk
    · exact h.sor k hk hk2
    · have := h.r.foot k hk2; omega
  · rcases hf k hk with hk | hk
    · exact h.go k hk
    · have := h.below.size; omega
theorem PS.stepr {r : Value} {l2 : List Con} {e : Ending} (h : PS w1 wr pb po pr ab ao ar cb co cr l lo lr) (P : ROPost wr pr (.slice ar lr.length cr) r l2 e w') :
    e = .returned r ∧ ∃ ar' cr', PS w1 w' pb po pr ab ao ar' cb co cr' l lo l2 := by
  obtain ⟨he, ad', cap', hb, T, F⟩ := P
  have hf : ∀ k, Foot pr (.slice ad' l2.length cap') k → Foot pr (.slice ar lr.length cr) k ∨ wr.heap.size ≤ k := fun k hk => by
    rcases hk with hk | hk
    · exact .inl (.inl hk)
    · rcases F k hk with h | h
      · exact .inl (.inr h)
      · exact .inr h
  refine ⟨he, ad', cap', h.b.keep T (fun e => h.sbr _ (.inl rfl) e) (fun k hk e => h.sbr _ (.inr hk) e), h.o.keep T (fun e => h.sor _ (.inl rfl) e) (fun k hk e => h.sor _ (.inr hk) e), hb, h.sbo, fun k hk2 hk => ?_, fun k hk2 hk => ?_, h.gb, h.go, fun k hk => ?_, h.below.trans (T.below h.below.size (fun k hk e => by have := h.gr k e; omega))⟩
  · rcases hf k hk with hk | hk
    · exact h.sbr k hk2 hk
    · have := h.b.foot k hk2; omega
  · rcases hf k hk with hk | hk
    · exact h.sor k hk2 hk
    · have := h.o.foot k hk2; omega
  · rcases hf k hk with hk | hk
    · exact h.gr k hk
    · have := h.below.size; omega
end
theorem PS.new (w : World) : PS w (((w.alloc (.cells #[.slice none 0 0] 50)).alloc (.cells #[.slice none 0 0] 50)).alloc (.cells #[.slice none 0 0] 61)) w.heap.size (w.heap.size + 1) (w.heap.size + 2) none none none 0 0 0 [] [] [] := by
  have f : ∀ p k, Foot p (.slice none 0 0) k → k = p := fun p k h => by
    rcases h with h | h
    · exact h
    · cases h
  have T1 := (Turns.refl (fun _ => False) (w.alloc (.cells #[.slice none 0 0] 50))).alloc (.cells #[.slice none 0 0] 50)
  have T2 := (Turns.refl (fun _ => False) ((w.alloc (.cells #[.slice none 0 0] 50)).alloc (.cells #[.slice none 0 0] 50))).alloc (.cells #[.slice none 0 0] 61)
  have b0 := (BO.new w).keep (T1.trans T2) (fun h => h) (fun _ _ h => h)
  have b1 := (BO.new (w.alloc (.cells #[.slice none 0 0] 50))).keep T2 (fun h => h) (fun _ _ h => h)
  have b2 := RO.new ((w.alloc (.cells #[.slice none 0 0] 50)).alloc (.cells #[.slice none 0 0] 50))
  simp only [World.size_alloc] at b1 b2
  exact ⟨b0, b1, b2, fun k h1 h2 => by have := f _ _ h1; have := f _ _ h2; omega, fun k h1 h2 => by have := f _ _ h1; have := f _ _ h2; omega, fun k h1 h2 => by have := f _ _ h1; have := f _ _ h2; omega,
    fun k h => by have := f _ _ h; omega, fun k h => by have := f _ _ h; omega, fun k h => by have := f _ _ h; omega, (((Below.refl _ _).alloc (Nat.le_refl _) _).alloc (by simp) _).alloc (by simp; omega) _⟩
theorem seeL_len {c : Con} {l : List Con} (h : l.length ≤ 3) : (seeL c l).length ≤ 3 := by
  unfold seeL
  split
  · rename_i i hi
    obtain ⟨h1, _⟩ := idxP_spec hi
    rw [List.length_append, List.length_eraseIdx_of_lt h1]
    simp
    omega
  · split
    · exact h
    · rw [List.length_append]; simp; omega
theorem seeL_byt {c : Con} {l : List Con} (h : Byts l) (hc : c.byt) : Byts (seeL c l) := by
  have ha : ∀ l', (∀ d ∈ l', d ∈ l) → Byts (l' ++ [c]) := fun l' hl d hd => by
    rcases List.mem_append.1 hd with hd | hd
    · exact h d (hl d hd)
    · simp only [List.mem_cons, List.not_mem_nil, or_false] at hd; subst hd; exact hc
  unfold seeL
  split
  · exact ha _ (fun d hd => List.mem_of_mem_eraseIdx hd)
  · split
    · exact h
    · exact ha _ (fun d hd => hd)
theorem zCon_byt : zCon.byt := pCon_byt 0
theorem seeR_byt {c : Con} {l : List Con} (h : Byts l) : (seeR c l).1.byt := by
  unfold seeR
  split
  · exact zCon_byt
  · split
    · cases l with
      | nil => exact zCon_byt
      | cons d l => exact h d (by simp)
    · exact zCon_byt
theorem dropP_len {peer : Int} {l : List Con} (h : l.length ≤ 3) : (dropP peer l).length ≤ 3 := by
  unfold dropP
  split
  · exact h
  · exact Nat.le_trans (List.length_eraseIdx_le _ _) h
theorem dropP_byt {peer : Int} {l : List Con} (h : Byts l) : Byts (dropP peer l) := by
  unfold dropP
  split
  · exact h
  · exact fun d hd => h d (List.mem_of_mem_eraseIdx hd)
/-- the acts, as they came in -/
def Acts (W : World) (A : Option Addr) (xs : List (Bool × Con)) : Prop := ∀ i (h : i < xs.length), ∃ b off, A = some ⟨b, off, none⟩ ∧ b < W.heap.size ∧ W.cell? ⟨b, off + i * 22, none⟩ = some (.bool xs[i].1) ∧ W.rangeAt b (off + i * 22 + 1) xs[i].2.cells ∧ xs[i].2.byt
theorem Acts.below {W W' : World} {A : Option Addr} {xs : List (Bool × Con)} (h : Acts W A xs) (hb : Below W.heap.size W W') : Acts W' A xs := fun i hi => by
  obtain ⟨b, off, h1, h2, h3, h4, h5⟩ := h i hi
  exact ⟨b, off, h1, Nat.lt_of_lt_of_le h2 hb.size, by rw [hb.cell (p := ⟨b, off + i * 22, none⟩) h2]; exact h3, fun j u hu => by rw [hb.cell (p := ⟨b, off + i * 22 + 1 + j, none⟩) h2]; exact h4 j u hu, h5⟩
end Go.Proofs.Ytddchhoplomjgaa
