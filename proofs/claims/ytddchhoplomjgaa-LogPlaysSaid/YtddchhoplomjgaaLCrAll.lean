/- LogCrashes over rows that came in. -/
import Derived.Test.YtddchhoplomjgaaLCr2
import Derived.Test.YtddchhoplomjgaaNums
import Derived.OpenShut
namespace Go.Proofs.Ytddchhoplomjgaa
open Go.RowKit Go.Proofs.YtddchhoplomjgaaW.PrintWords
theorem reads_of_C {w : World} {A : Option Addr} {xs : List Int} (h : Kd.C (Kd.int .u8) w A xs.length xs) : Reads w A (bv xs) := fun j u hj => by
  have hjl : j < xs.length := by have := (List.getElem?_eq_some_iff.1 hj).1; rwa [bv_length] at this
  obtain ⟨b, off, h1, h2, h3⟩ := reads_at h (by omega)
  refine ⟨b, off, h1, h2, ?_⟩
  rw [h3 j hjl]
  rw [bv_get xs j hjl] at hj
  rw [← hj]
  simp [List.getD_eq_getElem?_getD, List.getElem?_eq_getElem hjl]
theorem rowsRd_of_C {q : Nat} {w : World} {A : Option Addr} {rows : List (List Int)} (h : Kd.C (Kd.slice q (Kd.int .u8)) w A rows.length rows) : RowsRd w A rows := fun i hi => by
  obtain ⟨_, _, hr⟩ := h
  obtain ⟨ad, e, hc⟩ := hr (by omega)
  have cell : ∀ j (hj : j < rows.length), ∃ A' c', w.cell? (ad.add j) = some (.slice A' rows[j].length c') ∧ Kd.C (Kd.int .u8) w A' rows[j].length rows[j] := fun j hj => by
    obtain ⟨c, _, ⟨A', c', hcs, _, hC⟩, hcell⟩ := hc j _ (List.getElem?_eq_getElem hj)
    have := hcell 0 (.slice A' rows[j].length c') (by rw [hcs]; rfl)
    have e1 : j * (Kd.slice q (Kd.int .u8)).sz + 0 = j := by show j * 1 + 0 = j; omega
    rw [e1] at this
    exact ⟨A', c', this, hC⟩
  obtain ⟨A0, c0, h0, _⟩ := cell 0 (by omega)
  have e0 : ad.add 0 = ad := by simp [Addr.add]
  rw [e0] at h0
  have hs := spot_none h0
  obtain ⟨A', c', h1, h2⟩ := cell i hi
  rw [hs, Addr.add_lit] at h1
  exact ⟨ad.block, ad.off, A', c', by rw [← hs]; exact e, World.block_lt_of_cell? _ _ h0, h1, reads_of_C h2⟩
theorem byte_of_wf {x : Int} (h : (Lit.int .u8 x).wf = true) : Byte x := by
  have := bounds_u8 h
  exact this
theorem lcr_all (W : World) (A A' : Option Addr) (c c' : Nat) (ra rb : List (List Int)) (keep again : Int) (ha : Kd.C (Kd.slice 5 (Kd.int .u8)) W A ra.length ra) (hb : Kd.C (Kd.slice 5 (Kd.int .u8)) W A' rb.length rb)
    (ha2 : ra.length * 24 ≤ reachBytes) (hb2 : rb.length * 24 ≤ reachBytes) (ha3 : ∀ row ∈ ra, row.length * 1 ≤ reachBytes) (hb3 : ∀ row ∈ rb, row.length * 1 ≤ reachBytes) (ha4 : ∀ row ∈ ra, ∀ x ∈ row, (Lit.int .u8 x).wf = true) (hb4 : ∀ row ∈ rb, ∀ x ∈ row, (Lit.int .u8 x).wf = true) :
    Calls Try.prog 10 #[.slice A ra.length c, .slice A' rb.length c', .int .i64 keep, .int .i64 again] W fun e W' => e = .returned (.bool true) ∧ Below W.heap.size W W' := by
  unfold reachBytes at *
  by_cases h : ra.length ≤ 20 ∧ rb.length ≤ 20
  · exact lcr_in W A A' c c' _ _ ra rb keep again (rowsRd_of_C ha) (rowsRd_of_C hb) rfl rfl h.1 h.2 (fun r hr => ⟨fun x hx => byte_of_wf (ha4 r hr x hx), by have := ha3 r hr; omega⟩) (fun r hr => ⟨fun x hx => byte_of_wf (hb4 r hr x hx), by have := hb3 r hr; omega⟩)
  · exact lcr_out W A A' c c' _ _ keep again (by omega) (by omega) (by omega)
end Go.Proofs.Ytddchhoplomjgaa
