/- A parameter of the type [20]byte: opened and shut. -/
import Derived.Test.YtbkcopejclcfdaaKeyHeld
import Derived.OpenShut
import Derived.DataBytes
namespace Go.Proofs.Ytbkcopejclcfdaa
open Go.RowKit Go.ChangeShapes Go.Proofs.Ytbkcopejclcfdaa.Sum

theorem cells5 : Try.prog.cellsOf 5 = 1 := by kernel_rfl
theorem cells23 : Try.prog.cellsOf 23 = 20 := by kernel_rfl
/-- a key as data -/
def keyData {H : Type} (a : List Int) : DataW H := .agg ((List.range 20).map fun i => .lit (.int .u8 (a.getD i 0)))
theorem wf_byte {x : Int} (h : Byte x) : (Lit.int .u8 x).wf = true := WalkArith.wf_u8 (by have := h.1; have := h.2; omega)
theorem byte_wf {x : Int} (h : (Lit.int .u8 x).wf = true) : Byte x := by
  have := bounds_u8 h
  exact this
theorem slice_one (l : List Value) (i : Nat) (h : i < l.length) : (l.drop i).take 1 = [l[i]] := by
  rw [List.drop_eq_getElem_cons h, List.take_succ_cons, List.take_zero]
theorem trod_key {H : Type} (enc : TypeId × Value → H) (w : World) (base : Nat) (spare : Nat → Bool) (held : Bool) (a : List Int) (ha : Key20 a) (m : Nat) :
    DataW.trod enc Try.prog w base spare held (m + 2) 23 (kv a).toList = some (keyData a, []) := by
  unfold DataW.trod
  rw [Try.underlying23]
  have h1 : (kv a).toList.length = Try.prog.cellsOf 23 := by rw [cells23]; simp [kv, ha.len]
  simp only
  rw [if_pos h1, mapM_some_of_forall (g := fun i => ((.lit (.int .u8 (a.getD i 0)) : DataW H), ([] : List MemPlace)))]
  · simp only [Option.map_some, List.map_map, keyData]
    refine congrArg some (Prod.ext rfl ?_)
    simp
  · intro i hi
    have hlt : i < 20 := List.mem_range.1 hi
    have hl : i < (kv a).toList.length := by rw [h1, cells23]; exact hlt
    rw [cells5, Nat.mul_one, slice_one _ i hl]
    have hv : (kv a).toList[i] = .int .u8 (a.getD i 0) := by
      simp [kv, List.getD_eq_getElem?_getD, List.getElem?_eq_getElem (show i < a.length by rw [ha.len]; exact hlt)]
    rw [hv]
    unfold DataW.trod
    rw [Try.underlying5]
    have hw := wf_byte (getD_byte ha.bytes i)
    generalize a.getD i 0 = x at hw ⊢
    simp [hw]
variable {H : Type} {enc : TypeId × Value → H}
theorem shut_key {w : World} {base : Nat} {spare : Nat → Bool} {held : Bool} {a : List Int} (ha : Key20 a) : DataW.Trod enc Try.prog w base spare held 23 (.agg (kv a)) (keyData a) [] :=
  ⟨2, trod_key enc w base spare held a ha 0⟩
def numV : Value → Int | .int _ n => n | _ => 0
theorem open_key {r : Reach} {b0 : Nat} {w : World} {base : Nat} {spare : Nat → Bool} {held : Bool} {v : Value} {d : DataW H} {ps : List MemPlace} (hval : Value.okWide Try.prog w r b0 23 v) (hd : DataW.Trod enc Try.prog w base spare held 23 v d ps) :
    ∃ a, v = .agg (kv a) ∧ d = keyData a ∧ ps = [] ∧ Key20 a := by
  obtain ⟨cs, rfl, hsz⟩ : ∃ cs, v = .agg cs ∧ cs.size = Try.prog.cellsOf 23 := by
    have := hval
    simp [Value.okWide, Try.underlying23] at this
    obtain ⟨cs, h1, h2, _⟩ := this
    exact ⟨cs, h1, h2⟩
  rw [cells23] at hsz
  obtain ⟨fuel, hf⟩ := hd
  have hf' : DataW.trod enc Try.prog w base spare held fuel 23 cs.toList = some (d, ps) := hf
  obtain ⟨xs, m, rfl, _, _, hl, he⟩ := DataW.trod_array Try.underlying23 hf'
  have each : ∀ i, (hi : i < 20) → cs.toList[i]'(by simpa [hsz] using hi) = .int .u8 (numV (cs.toList[i]'(by simpa [hsz] using hi))) ∧ Byte (numV (cs.toList[i]'(by simpa [hsz] using hi))) := by
    intro i hi
    have h1 := he i hi
    have hl2 : i < cs.toList.length := by simpa [hsz] using hi
    rw [cells5, Nat.mul_one, slice_one _ i hl2, List.getElem?_eq_getElem (by omega)] at h1
    obtain ⟨n, hn, _, hw⟩ := DataW.trod_int Try.underlying5 h1
    have hn' := (List.cons.inj hn).1
    rw [hn']
    exact ⟨rfl, byte_wf hw⟩
  have ha : cs = kv (cs.toList.map numV) := by
    apply Array.ext'
    apply List.ext_getElem
    · simp [kv]
    · intro i h1 h2
      have hi : i < 20 := by simpa [hsz] using h1
      have := (each i hi).1
      simp only [kv]
      simp only [List.getElem_map]
      exact this
  have hk : Key20 (cs.toList.map numV) := ⟨by simp [hsz], fun x hx => by
    obtain ⟨y, hy, rfl⟩ := List.mem_map.1 hx
    obtain ⟨i, hi, rfl⟩ := List.getElem_of_mem hy
    exact (each i (by simpa [hsz] using hi)).2⟩
  generalize cs.toList.map numV = a at ha hk
  subst ha
  have hm : ∃ k, m = k + 1 := by
    cases m with
    | zero =>
      have h1 := he 0 (by omega)
      rw [List.getElem?_eq_getElem (by omega)] at h1
      simp [DataW.trod] at h1
    | succ k => exact ⟨k, rfl⟩
  obtain ⟨k, rfl⟩ := hm
  rw [trod_key enc w base spare held a hk k] at hf'
  have e := Option.some.inj hf'
  exact ⟨a, rfl, (Prod.ext_iff.1 e).1.symm, (Prod.ext_iff.1 e).2.symm, hk⟩
end Go.Proofs.Ytbkcopejclcfdaa
