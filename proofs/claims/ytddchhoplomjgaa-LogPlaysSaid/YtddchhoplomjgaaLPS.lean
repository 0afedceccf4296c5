/- LogPlays: two logs and the document's beside one another; the plain law. -/
import Derived.Test.YtddchhoplomjgaaLRCrash
import Derived.Test.YtddchhoplomjgaaLPlain
import Derived.Test.YtddchhoplomjgaaLSame
namespace Go.Proofs.Ytddchhoplomjgaa
open Go.RowKit Go.Proofs.YtddchhoplomjgaaW.PrintLast
set_option linter.unusedVariables false
set_option linter.unusedSimpArgs false
theorem wholeN_packs : ∀ (a : List (List Int)) (d : List Int), Short a → wholeN (packs a ++ d) = (packs a).length + wholeN d
  | [], d, _ => by simp [packs_nil]
  | r :: a, d, h => by
    have hr := h r (by simp)
    rw [packs_cons, List.append_assoc, wholeN_some (nextP_pack r (packs a ++ d) hr), show r.length + 2 = (packP r).length from by rw [packP_length]; omega, List.drop_left, wholeN_packs a d (fun q hq => h q (by simp [hq])), List.length_append]
    omega
/-- what both logs hold: whole pieces, the sure ones first -/
def Good (b : List Int) (sure : Nat) : Prop := ∃ a c, Short a ∧ Short c ∧ b = packs a ++ packs c ∧ sure = (packs a).length
theorem Good.new : Good [] 0 := ⟨[], [], fun r h => by simp at h, fun r h => by simp at h, rfl, rfl⟩
theorem Good.le {b : List Int} {sure : Nat} (h : Good b sure) : sure ≤ b.length := by
  obtain ⟨a, c, _, _, rfl, rfl⟩ := h
  rw [List.length_append]; omega
theorem Good.append {b : List Int} {sure : Nat} (h : Good b sure) (xs : List Int) (hx : xs.length ≤ 65535) : Good (b ++ packP xs) sure := by
  obtain ⟨a, c, ha, hc, rfl, rfl⟩ := h
  refine ⟨a, c ++ [xs], ha, hc.append (fun r hr => by simp only [List.mem_cons, List.not_mem_nil, or_false] at hr; subst hr; exact hx), ?_, rfl⟩
  rw [packs_append, packs_cons, packs_nil, List.append_nil, List.append_assoc]
theorem Good.sure {b : List Int} {sure : Nat} (h : Good b sure) : Good b b.length := by
  obtain ⟨a, c, ha, hc, rfl, rfl⟩ := h
  exact ⟨a ++ c, [], ha.append hc, fun r h => by simp at h, by rw [packs_append, packs_nil, List.append_nil], by rw [packs_append]⟩
theorem Good.rcrash {b : List Int} {sure : Nat} (h : Good b sure) (keep : Int) : rcrashN b sure keep = crashN b sure keep := by
  obtain ⟨a, c, ha, hc, rfl, rfl⟩ := h
  have hE := crashE_le (keep := keep) (show (packs a).length ≤ (packs a ++ packs c).length by rw [List.length_append]; omega)
  unfold rcrashN crashN
  rw [List.take_append, List.take_of_length_le hE.1, wholeN_packs a _ ha, List.drop_left]
theorem Good.crash {b : List Int} {sure : Nat} (h : Good b sure) (keep : Int) : Good (b.take (crashN b sure keep)) (crashN b sure keep) := by
  obtain ⟨a, c, ha, hc, rfl, rfl⟩ := h
  rw [crash_packs a c keep hc]
  have e : (packs a ++ packs c).take (packs (a ++ c.take (jN keep c))).length = packs (a ++ c.take (jN keep c)) := by
    have e1 : packs a ++ packs c = packs (a ++ c.take (jN keep c)) ++ packs (c.drop (jN keep c)) := by
      rw [← packs_append, ← packs_append, List.append_assoc, List.take_append_drop]
    rw [e1, List.take_left]
  rw [e]
  exact ⟨a ++ c.take (jN keep c), [], ha.append (hc.take _), fun r h => by simp at h, by rw [packs_nil, List.append_nil], rfl⟩
/-- the blocks of a log -/
def LFoot (p : Nat) (v : Value) (k : Nat) : Prop := k = p ∨ v.ownBlock = some k
theorem LO.foot {W : World} {p : Nat} {ad : Option Addr} {cap : Nat} {b : List Int} {sure : Int} (h : LO W p ad cap b sure) (k : Nat) (hk : LFoot p (.slice ad b.length cap) k) : k < W.heap.size := by
  rcases hk with rfl | hk
  · exact lt_of_block h.blk
  · exact (h.own.lt k hk).2
theorem RL.foot {W : World} {p : Nat} {ad : Option Addr} {cap : Nat} {b : List Int} {sure : Int} (h : RL W p ad cap b sure) (k : Nat) (hk : LFoot p (.slice ad b.length cap) k) : k < W.heap.size := by
  rcases hk with rfl | hk
  · exact lt_of_block h.blk
  · exact (h.own.lt k hk).2
/-- a block that is none of theirs -/
def NF (pb po pr : Nat) (vb vo vr : Value) (k : Nat) : Prop := ¬ LFoot pb vb k ∧ ¬ LFoot po vo k ∧ ¬ LFoot pr vr k
/-- three logs that were made behind w1: one played, one beside, the document's own -/
structure PL (w1 wr : World) (pb po pr : Nat) (ab ao ar : Option Addr) (cb co cr : Nat) (b bo br : List Int) (sb so sr : Int) : Prop where
  x : LO wr pb ab cb b sb
  o : LO wr po ao co bo so
  r : RL wr pr ar cr br sr
  sbo : ∀ k, LFoot pb (.slice ab b.length cb) k → ¬ LFoot po (.slice ao bo.length co) k
  sbr : ∀ k, LFoot pb (.slice ab b.length cb) k → ¬ LFoot pr (.slice ar br.length cr) k
  sor : ∀ k, LFoot po (.slice ao bo.length co) k → ¬ LFoot pr (.slice ar br.length cr) k
  gb : ∀ k, LFoot pb (.slice ab b.length cb) k → w1.heap.size ≤ k
  go : ∀ k, LFoot po (.slice ao bo.length co) k → w1.heap.size ≤ k
  gr : ∀ k, LFoot pr (.slice ar br.length cr) k → w1.heap.size ≤ k
  below : Below w1.heap.size w1 wr
section
variable {w1 wr w' : World} {pb po pr : Nat} {ab ao ar : Option Addr} {cb co cr : Nat} {b bo br : List Int} {sb so sr : Int}
/-- what turns is none of theirs -/
theorem PL.apart {F : Nat → Prop} (h : PL w1 wr pb po pr ab ao ar cb co cr b bo br sb so sr) (T : Turns F wr w') (fb : ∀ k, LFoot pb (.slice ab b.length cb) k → ¬ F k) (fo : ∀ k, LFoot po (.slice ao bo.length co) k → ¬ F k) (fr : ∀ k, LFoot pr (.slice ar br.length cr) k → ¬ F k) (h1 : ∀ k, k < w1.heap.size → ¬ F k) : PL w1 w' pb po pr ab ao ar cb co cr b bo br sb so sr :=
  ⟨h.x.keep T (fb _ (.inl rfl)) (fun k hk => fb _ (.inr hk)), h.o.keep T (fo _ (.inl rfl)) (fun k hk => fo _ (.inr hk)), h.r.keep T (fr _ (.inl rfl)) (fun k hk => fr _ (.inr hk)),
   h.sbo, h.sbr, h.sor, h.gb, h.go, h.gr, h.below.trans (T.below h.below.size (fun k hk e => h1 k hk e))⟩
theorem PL.keep {F : Nat → Prop} (h : PL w1 wr pb po pr ab ao ar cb co cr b bo br sb so sr) (T : Turns F wr w') (hF : ∀ k, F k → wr.heap.size ≤ k) : PL w1 w' pb po pr ab ao ar cb co cr b bo br sb so sr :=
  h.apart T (fun k hk e => by have := hF _ e; have := h.x.foot _ hk; omega) (fun k hk e => by have := hF _ e; have := h.o.foot _ hk; omega) (fun k hk e => by have := hF _ e; have := h.r.foot _ hk; omega) (fun k hk e => by have := hF _ e; have := h.below.size; omega)
theorem PL.later (h : PL w1 wr pb po pr ab ao ar cb co cr b bo br sb so sr) (hb : Below wr.heap.size wr w') : PL w1 w' pb po pr ab ao ar cb co cr b bo br sb so sr :=
  h.keep (Turns.of_below hb (fun _ => False)) (fun _ e => e.elim)
theorem Fresh.lfoot {W : World} {p k : Nat} {v v' : Value} (h : Fresh W v v') (hk : LFoot p v' k) : LFoot p v k ∨ W.heap.size ≤ k := by
  rcases hk with hk | hk
  · exact .inl (.inl hk)
  · rcases h with h | ⟨q, h, hq⟩
    · exact .inl (.inr (by rw [← h]; exact hk))
    · rw [h] at hk; injection hk with hk; exact .inr (by omega)
theorem PL.stepb {r : Value} {b2 : List Int} {s2 : Int} {e : Ending} (h : PL w1 wr pb po pr ab ao ar cb co cr b bo br sb so sr) (P : LOPost wr pb (.slice ab b.length cb) r b2 s2 e w') :
    e = .returned r ∧ ∃ ab' cb', PL w1 w' pb po pr ab' ao ar cb' co cr b2 bo br s2 so sr ∧ Turns (fun k => ¬ NF pb po pr (.slice ab b.length cb) (.slice ao bo.length co) (.slice ar br.length cr) k) wr w' ∧ ∀ k, k < wr.heap.size → NF pb po pr (.slice ab b.length cb) (.slice ao bo.length co) (.slice ar br.length cr) k → NF pb po pr (.slice ab' b2.length cb') (.slice ao bo.length co) (.slice ar br.length cr) k := by
  obtain ⟨he, ad', cap', hb, T, F⟩ := P
  have hf : ∀ k, LFoot pb (.slice ad' b2.length cap') k → LFoot pb (.slice ab b.length cb) k ∨ wr.heap.size ≤ k := fun k hk => F.lfoot hk
  have TN : Turns (fun k => ¬ NF pb po pr (.slice ab b.length cb) (.slice ao bo.length co) (.slice ar br.length cr) k) wr w' := T.mono (fun k _ hk hn => hn.1 hk)
  refine ⟨he, ad', cap', ⟨hb, h.o.keep T (fun e => h.sbo _ e (.inl rfl)) (fun k hk e => h.sbo _ e (.inr hk)), h.r.keep T (fun e => h.sbr _ e (.inl rfl)) (fun k hk e => h.sbr _ e (.inr hk)), fun k hk hk2 => ?_, fun k hk hk2 => ?_, h.sor, fun k hk => ?_, h.go, h.gr, h.below.trans (T.below h.below.size (fun k hk e => by have := h.gb k e; omega))⟩, TN, fun k hlt hn => ⟨fun hk => by rcases hf k hk with hk | hk; exact hn.1 hk; omega, hn.2.1, hn.2.2⟩⟩
  · rcases hf k hk with hk | hk
    · exact h.sbo k hk hk2
    · have := h.o.foot k hk2; omega
  · rcases hf k hk with hk | hk
    · exact h.sbr k hk hk2
    · have := h.r.foot k hk2; omega
  · rcases hf k hk with hk | hk
    · exact h.gb k hk
    · have := h.below.size; omega
theorem PL.stepo {r : Value} {b2 : List Int} {s2 : Int} {e : Ending} (h : PL w1 wr pb po pr ab ao ar cb co cr b bo br sb so sr) (P : LOPost wr po (.slice ao bo.length co) r b2 s2 e w') :
    e = .returned r ∧ ∃ ao' co', PL w1 w' pb po pr ab ao' ar cb co' cr b b2 br sb s2 sr ∧ Turns (fun k => ¬ NF pb po pr (.slice ab b.length cb) (.slice ao bo.length co) (.slice ar br.length cr) k) wr w' ∧ ∀ k, k < wr.heap.size → NF pb po pr (.slice ab b.length cb) (.slice ao bo.length co) (.slice ar br.length cr) k → NF pb po pr (.slice ab b.length cb) (.slice ao' b2.length co') (.slice ar br.length cr) k := by
  obtain ⟨he, ad', cap', hb, T, F⟩ := P
  have hf : ∀ k, LFoot po (.slice ad' b2.length cap') k → LFoot po (.slice ao bo.length co) k ∨ wr.heap.size ≤ k := fun k hk => F.lfoot hk
  have TN : Turns (fun k => ¬ NF pb po pr (.slice ab b.length cb) (.slice ao bo.length co) (.slice ar br.length cr) k) wr w' := T.mono (fun k _ hk hn => hn.2.1 hk)
  refine ⟨he, ad', cap', ⟨h.x.keep T (fun e => h.sbo _ (.inl rfl) e) (fun k hk e => h.sbo _ (.inr hk) e), hb, h.r.keep T (fun e => h.sor _ e (.inl rfl)) (fun k hk e => h.sor _ e (.inr hk)), fun k hk2 hk => ?_, h.sbr, fun k hk hk2 => ?_, h.gb, fun k hk => ?_, h.gr, h.below.trans (T.below h.below.size (fun k hk e => by have := h.go k e; omega))⟩, TN, fun k hlt hn => ⟨hn.1, fun hk => by rcases hf k hk with hk | hk; exact hn.2.1 hk; omega, hn.2.2⟩⟩
  · rcases hf k hk with hk | hk
    · exact h.sbo k hk2 hk
    · have := h.x.foot k hk2; omega
  · rcases hf k hk with hk | hk
    · exact h.sor k hk hk2
    · have := h.r.foot k hk2; omega
  · rcases hf k hk with hk | hk
    · exact h.go k hk
    · have := h.below.size; omega
theorem PL.stepr {r : Value} {b2 : List Int} {s2 : Int} {e : Ending} (h : PL w1 wr pb po pr ab ao ar cb co cr b bo br sb so sr) (P : RLPost wr pr (.slice ar br.length cr) r b2 s2 e w') :
    e = .returned r ∧ ∃ ar' cr', PL w1 w' pb po pr ab ao ar' cb co cr' b bo b2 sb so s2 ∧ Turns (fun k => ¬ NF pb po pr (.slice ab b.length cb) (.slice ao bo.length co) (.slice ar br.length cr) k) wr w' ∧ ∀ k, k < wr.heap.size → NF pb po pr (.slice ab b.length cb) (.slice ao bo.length co) (.slice ar br.length cr) k → NF pb po pr (.slice ab b.length cb) (.slice ao bo.length co) (.slice ar' b2.length cr') k := by
  obtain ⟨he, ad', cap', hb, T, F⟩ := P
  have hf : ∀ k, LFoot pr (.slice ad' b2.length cap') k → LFoot pr (.slice ar br.length cr) k ∨ wr.heap.size ≤ k := fun k hk => by
    rcases hk with hk | hk
    · exact .inl (.inl hk)
    · rcases F k hk with h | h
      · exact .inl (.inr h)
      · exact .inr h
  have TN : Turns (fun k => ¬ NF pb po pr (.slice ab b.length cb) (.slice ao bo.length co) (.slice ar br.length cr) k) wr w' := T.mono (fun k _ hk hn => hn.2.2 hk)
  refine ⟨he, ad', cap', ⟨h.x.keep T (fun e => h.sbr _ (.inl rfl) e) (fun k hk e => h.sbr _ (.inr hk) e), h.o.keep T (fun e => h.sor _ (.inl rfl) e) (fun k hk e => h.sor _ (.inr hk) e), hb, h.sbo, fun k hk2 hk => ?_, fun k hk2 hk => ?_, h.gb, h.go, fun k hk => ?_, h.below.trans (T.below h.below.size (fun k hk e => by have := h.gr k e; omega))⟩, TN, fun k hlt hn => ⟨hn.1, hn.2.1, fun hk => by rcases hf k hk with hk | hk; exact hn.2.2 hk; omega⟩⟩
  · rcases hf k hk with hk | hk
    · exact h.sbr k hk2 hk
    · have := h.x.foot k hk2; omega
  · rcases hf k hk with hk | hk
    · exact h.sor k hk2 hk
    · have := h.o.foot k hk2; omega
  · rcases hf k hk with hk | hk
    · exact h.gr k hk
    · have := h.below.size; omega
theorem PL.nf_ge {k : Nat} (h : PL w1 wr pb po pr ab ao ar cb co cr b bo br sb so sr) (hk : wr.heap.size ≤ k) : NF pb po pr (.slice ab b.length cb) (.slice ao bo.length co) (.slice ar br.length cr) k :=
  ⟨fun e => by have := h.x.foot _ e; omega, fun e => by have := h.o.foot _ e; omega, fun e => by have := h.r.foot _ e; omega⟩
theorem PL.nf_lt {k : Nat} (h : PL w1 wr pb po pr ab ao ar cb co cr b bo br sb so sr) (hk : k < w1.heap.size) : NF pb po pr (.slice ab b.length cb) (.slice ao bo.length co) (.slice ar br.length cr) k :=
  ⟨fun e => by have := h.gb _ e; omega, fun e => by have := h.go _ e; omega, fun e => by have := h.gr _ e; omega⟩
/-- what turns is a block that is none of theirs, of later than w1 -/
theorem PL.turn {g : Nat} (h : PL w1 wr pb po pr ab ao ar cb co cr b bo br sb so sr) (T : Turns (fun k => k = g) wr w') (hg : NF pb po pr (.slice ab b.length cb) (.slice ao bo.length co) (.slice ar br.length cr) g) (h1 : w1.heap.size ≤ g) : PL w1 w' pb po pr ab ao ar cb co cr b bo br sb so sr :=
  h.apart T (fun k hk e => by subst e; exact hg.1 hk) (fun k hk e => by subst e; exact hg.2.1 hk) (fun k hk e => by subst e; exact hg.2.2 hk) (fun k hk e => by omega)
end
theorem PL.new (w : World) : PL w (((w.alloc (.cells #[.slice none 0 0, .int .i64 0] 40)).alloc (.cells #[.slice none 0 0, .int .i64 0] 40)).alloc (.cells #[.slice none 0 0, .int .i64 0] 69)) w.heap.size (w.heap.size + 1) (w.heap.size + 2) none none none 0 0 0 [] [] [] 0 0 0 := by
  have f : ∀ p k, LFoot p (.slice none 0 0) k → k = p := fun p k h => by
    rcases h with h | h
    · exact h
    · cases h
  have T1 := (Turns.refl (fun _ => False) (w.alloc (.cells #[.slice none 0 0, .int .i64 0] 40))).alloc (.cells #[.slice none 0 0, .int .i64 0] 40)
  have T2 := (Turns.refl (fun _ => False) ((w.alloc (.cells #[.slice none 0 0, .int .i64 0] 40)).alloc (.cells #[.slice none 0 0, .int .i64 0] 40))).alloc (.cells #[.slice none 0 0, .int .i64 0] 69)
  have b0 := (lo_new w).keep (T1.trans T2) (fun h => h) (fun _ _ h => h)
  have b1 := (lo_new (w.alloc (.cells #[.slice none 0 0, .int .i64 0] 40))).keep T2 (fun h => h) (fun _ _ h => h)
  have b2 := RL.new ((w.alloc (.cells #[.slice none 0 0, .int .i64 0] 40)).alloc (.cells #[.slice none 0 0, .int .i64 0] 40))
  simp only [World.size_alloc] at b1 b2
  exact ⟨b0, b1, b2, fun k h1 h2 => by have := f _ _ h1; have := f _ _ h2; omega, fun k h1 h2 => by have := f _ _ h1; have := f _ _ h2; omega, fun k h1 h2 => by have := f _ _ h1; have := f _ _ h2; omega,
    fun k h => by have := f _ _ h; omega, fun k h => by have := f _ _ h; omega, fun k h => by have := f _ _ h; omega, (((Below.refl _ _).alloc (Nat.le_refl _) _).alloc (by simp) _).alloc (by simp; omega) _⟩
/-- an act, as it came in -/
structure LAct where
  way : Int
  n : Int
  B : List Int
/-- the acts, as they came in -/
def LActs (W : World) (A : Option Addr) (xs : List LAct) : Prop := ∀ i (h : i < xs.length), ∃ b off ad cap, A = some ⟨b, off, none⟩ ∧ b < W.heap.size ∧ W.cell? ⟨b, off + i * 3, none⟩ = some (.int .i64 xs[i].way) ∧ W.cell? ⟨b, off + i * 3 + 1, none⟩ = some (.int .i64 xs[i].n) ∧
  W.cell? ⟨b, off + i * 3 + 2, none⟩ = some (.slice ad xs[i].B.length cap) ∧ Reads W ad (bv xs[i].B) ∧ Bytes xs[i].B ∧ xs[i].B.length ≤ cap ∧ xs[i].B.length ≤ 9223372036854775807
/-- Sure and Crash as posts of the one form -/
theorem sure_post (W : World) (p : Nat) (ad : Option Addr) (cap : Nat) (b : List Int) (sure : Int) (h : LO W p ad cap b sure) :
    Calls Try.prog 29 #[.pointer (some ⟨p, 0, none⟩)] W (LOPost W p (.slice ad b.length cap) (.tuple #[]) b b.length) :=
  (sure_any W p ad cap b sure h).mono fun e W' ⟨he, h1, T⟩ => ⟨he, ad, cap, h1, T.mono (fun _ _ hk => .inl hk), Fresh.refl _ _⟩
theorem crash_post (W : World) (p : Nat) (ad : Option Addr) (cap : Nat) (b : List Int) (sure : Nat) (keep : Int) (h : LO W p ad cap b sure) (hs : sure ≤ b.length) (hl : b.length ≤ 1000000000) :
    Calls Try.prog 31 #[.pointer (some ⟨p, 0, none⟩), .int .i64 keep] W (LOPost W p (.slice ad b.length cap) (.tuple #[]) (b.take (crashN b sure keep)) (crashN b sure keep : Nat)) :=
  (crash_any W p ad cap b sure keep h hs hl).mono fun e W' ⟨he, h1, T⟩ => ⟨he, ad, cap, h1, T.mono (fun _ _ hk => .inl hk), .inl (by cases ad <;> rfl)⟩
end Go.Proofs.Ytddchhoplomjgaa
