/- The clean machine, where a region draws its order: what is quiet, what is new, what has effects; swaps. No program is walked here. -/
import Derived.Test.YtkimkgbppegkhaaGreatCmL
namespace Go.Proofs.YtkimkgbppegkhaaGreat.Cm
open Go Go.RowKit

inductive Cls where
  | quiet | fresh | eff
  deriving DecidableEq
def cls (P : Program) : Op → Cls
  | .move _ | .assign _ | .pick .. | .build .. | .nilCheck _ | .binOp .. | .unOp .. | .makeFunc .. | .fieldAddr .. | .indexAddr .. | .index .. | .extract .. | .load .. | .slice .. | .lookup .. => .quiet
  | .convert _ d _ => match P.underlying d with
    | some (.int _) => .quiet
    | some .string => .quiet
    | _ => .eff
  | .call { callee := .builtin b, .. } => match b with
    | .len | .cap | .min | .max => .quiet
    | _ => .eff
  | .alloc _ | .box .. | .buildSlice .. | .makeSlice .. => .fresh
  | .makeMap _ none => .fresh
  | _ => .eff
/-- the name that a quiet operation reads -/
def idOf : Option V → Nat
  | some (.u (.f (.ptr id _))) => id
  | some (.u (.f (.sl id _ _ _ _))) => id
  | some (.u (.f (.map id))) => id
  | _ => 0
def rdId (r : Operand → Option V) : Op → Nat
  | .load _ a => idOf (r a)
  | .slice _ x _ _ _ => idOf (r x)
  | .lookup _ m _ _ => idOf (r m)
  | .convert _ _ x => idOf (r x)
  | .call { callee := .builtin .len, args, .. } => match args.toList with
    | [x] => idOf (r x)
    | _ => 0
  | _ => 0
section
variable {P : Program} {r : Operand → Option V} {h h' : Heap} {n n' : Nat} {ef : Ef}
theorem rowA_dep {id : Nat} {sz : Nat} {x : F} (hx : idOf (some (.u (.f x))) = id) (hh : h id = h' id) : rowA h sz x = rowA h' sz x := by
  cases x <;> simp only [rowA, idOf] at * <;> first
    | rfl
    | (subst hx; rw [hh])
theorem lenB_dep {id : Nat} {t : TypeId} {v : V} (hv : idOf (some v) = id) (hh : h id = h' id) : lenB P t v h = lenB P t v h' := by
  unfold lenB
  split <;> first
    | rfl
    | skip
  split <;> first
    | rfl
    | skip
  simp only [idOf] at hv
  subst hv
  rw [hh]
theorem quiet_dep {op : Op} (hc : cls P op = .quiet) (hh : h (rdId r op) = h' (rdId r op)) : stepOp P op r h n = stepOp P op r h' n' := by
  cases op <;> simp only [cls] at hc <;> first
    | (cases hc; done)
    | rfl
    | skip
  case makeMap t x => cases x <;> simp only at hc <;> cases hc
  case unOp op t x => cases op <;> rfl
  case makeFunc fn a b => cases fn <;> rfl
  case load t a =>
    simp only [stepOp, rdId] at *
    split
    · rename_i id off ha
      rw [ha] at hh
      simp only [idOf] at hh
      rw [hh]
    · rfl
  case slice t x lo hi mx =>
    simp only [stepOp, rdId] at *
    split
    · rename_i y a b c hx _ _ _
      rw [hx] at hh
      split
      · simp only [idOf] at hh; rw [hh]
      · rfl
      · simp only [idOf] at hh; rw [hh]
      · rfl
    · rfl
  case lookup t m k ok =>
    simp only [stepOp, rdId] at *
    split
    · rename_i kt et m' k' hu hm hk
      rw [hm] at hh
      cases m' <;> first
        | rfl
        | (simp only [idOf] at hh; simp only [hh])
    · rfl
  case convert s d x =>
    simp only [stepOp, rdId] at *
    split
    · rfl
    · rename_i e y hs hd hx
      rw [hx] at hh
      rw [rowA_dep rfl hh]
    · rename_i hs hd hx
      rw [hd] at hc
      cases hc
    · rename_i hs hd hx
      rw [hd] at hc
      cases hc
    · rfl
  case call c =>
    obtain ⟨callee, args, ats⟩ := c
    cases callee with
    | builtin b =>
      simp only [stepOp]
      cases b <;> simp only at hc <;> first
        | (cases hc; done)
        | skip
      · split <;> rfl
      · split
        · rename_i vs hvs
          simp only [builtinA]
          split
          · rename_i v t h0
            have : ∃ x, args.toList = [x] ∧ r x = some v := by
              cases hl : args.toList with
              | nil => rw [hl] at hvs; simp [valsA] at hvs
              | cons x l =>
                rw [hl] at hvs
                simp only [valsA] at hvs
                split at hvs
                · rename_i v' l' h1 h2
                  cases hvs
                  cases l with
                  | nil => exact ⟨x, rfl, h1⟩
                  | cons y l => simp only [valsA] at h2; split at h2 <;> cases h2
                · cases hvs
            obtain ⟨x, h1, h2⟩ := this
            simp only [rdId, h1, h2] at hh
            rw [lenB_dep rfl hh]
          · rfl
        · rfl
      · split <;> rfl
      · split <;> rfl
    | value f => cases hc
    | invoke a b => cases hc
theorem ite_some {c : Prop} [Decidable c] {α : Type} {x y : α} (h : (if c then some x else none) = some y) : x = y := by split at h <;> cases h; rfl
theorem quiet_form {op : Op} (hc : cls P op = .quiet) (hs : stepOp P op r h n = some ef) : ef.2.1 = [] ∧ ef.2.2 = 0 := by
  cases op <;> simp only [cls] at hc <;> first
    | (cases hc; done)
    | skip
  case makeMap t x => cases x <;> simp only at hc <;> cases hc
  case convert s d x =>
    simp only [stepOp] at hs
    split at hs
    · cases hs; exact ⟨rfl, rfl⟩
    · split at hs
      · split at hs
        · split at hs
          · cases hs; exact ⟨rfl, rfl⟩
          · cases hs
        · cases hs
      · cases hs
    · rename_i hd _; rw [hd] at hc; cases hc
    · rename_i hd _; rw [hd] at hc; cases hc
    · cases hs
  case unOp op t x =>
    cases op <;> simp only [stepOp] at hs <;> first
      | (cases hs; done)
      | skip
    split at hs <;> cases hs
    exact ⟨rfl, rfl⟩
  case makeFunc fn first caps =>
    cases fn <;> simp only [stepOp] at hs <;> first
      | (cases hs; done)
      | skip
    (repeat' split at hs)
    all_goals first
      | (cases hs; exact ⟨rfl, rfl⟩)
      | cases hs
  case call c =>
    obtain ⟨callee, args, ats⟩ := c
    cases callee with
    | builtin b =>
      simp only [stepOp] at hs
      split at hs
      · cases b <;> simp only at hc <;> first
          | (cases hc; done)
          | skip
        all_goals
          simp only [builtinA] at hs
          (repeat' split at hs)
          all_goals first
            | (cases hs; exact ⟨rfl, rfl⟩)
            | cases hs
      · cases hs
    | value f => cases hc
    | invoke a b => cases hc
  all_goals
    simp only [stepOp, Option.map_eq_some_iff] at hs
  all_goals first
    | (obtain ⟨v, hv, rfl⟩ := hs; exact ⟨rfl, rfl⟩)
    | skip
  all_goals
    (repeat' split at hs)
  all_goals first
    | (cases hs; exact ⟨rfl, rfl⟩)
    | (simp only [Option.map_eq_some_iff] at hs; obtain ⟨v, hv, rfl⟩ := hs; exact ⟨rfl, rfl⟩)
    | cases hs
theorem fresh_dep {op : Op} (hc : cls P op = .fresh) : stepOp P op r h n = stepOp P op r h' n := by
  cases op <;> simp only [cls] at hc <;> first
    | (cases hc; done)
    | rfl
    | skip
  case convert s d x => split at hc <;> cases hc
  case call c =>
    obtain ⟨callee, args, ats⟩ := c
    cases callee with
    | builtin b => cases b <;> simp only at hc <;> cases hc
    | value f => cases hc
    | invoke a b => cases hc
  case makeMap t x => cases x <;> rfl
theorem fresh_form {op : Op} (hc : cls P op = .fresh) (hs : stepOp P op r h n = some ef) : ∃ ob, ef.2.1 = [(n, some ob)] ∧ ef.2.2 = 1 := by
  cases op <;> simp only [cls] at hc <;> first
    | (cases hc; done)
    | skip
  case convert s d x => split at hc <;> cases hc
  case call c =>
    obtain ⟨callee, args, ats⟩ := c
    cases callee with
    | builtin b => cases b <;> simp only at hc <;> cases hc
    | value f => cases hc
    | invoke a b => cases hc
  case makeMap t x =>
    cases x <;> simp only [stepOp] at hs
    · split at hs <;> cases hs
      exact ⟨_, rfl, rfl⟩
    · cases hs
  all_goals
    simp only [stepOp] at hs
    (repeat' split at hs)
  all_goals first
    | (cases hs; exact ⟨_, rfl, rfl⟩)
    | (simp only [Option.map_eq_some_iff] at hs; obtain ⟨v, hv, rfl⟩ := hs; exact ⟨_, rfl, rfl⟩)
    | cases hs
end
end Go.Proofs.YtkimkgbppegkhaaGreat.Cm
/- The clean machine: operations with effects, where more lies in the heap. No program is walked here. -/
namespace Go.Proofs.YtkimkgbppegkhaaGreat.Cm
open Go Go.RowKit
section
variable {P : Program} {r : Operand → Option V} {h h' : Heap} {n n' : Nat} {ef : Ef}
def Mono (h h' : Heap) : Prop := ∀ id o, h id = some o → h' id = some o
/-- what is turned lay there, or bears the new name -/
def Tidy (h : Heap) (n : Nat) (ef : Ef) : Prop := ∀ p ∈ ef.2.1, h p.1 ≠ none ∨ (p.1 = n ∧ ef.2.2 = 1)
theorem rowA_mono (hm : Mono h h') {sz : Nat} {x : F} {l : List F} (hs : rowA h sz x = some l) : rowA h' sz x = some l := by
  cases x <;> simp only [rowA] at hs ⊢ <;> first
    | exact hs
    | skip
  split at hs
  · rename_i hsz
    rw [if_pos hsz]
    split at hs
    · rename_i cs ex hc
      rw [hm _ _ hc]
      exact hs
    · rename_i rcs elem fz hc
      rw [hm _ _ hc]
      exact hs
    · cases hs
  · cases hs
theorem appendA_mono (hm : Mono h h') {sz bytes m : Nat} {s : F} {new : List F} (hs : appendA h n sz bytes s new m = some ef) : appendA h' n sz bytes s new m = some ef ∧ Tidy h n ef := by
  unfold appendA at hs ⊢
  split at hs
  · refine ⟨hs, ?_⟩
    repeat' split at hs
    all_goals first
      | (cases hs; intro p hp; simp at hp; done)
      | (cases hs; intro p hp; simp at hp; subst hp; exact .inr ⟨rfl, rfl⟩)
      | cases hs
  · split at hs
    · rename_i hsz
      simp only [if_pos hsz]
      split at hs
      · rename_i cs ex hc
        rw [hm _ _ hc]
        refine ⟨hs, ?_⟩
        simp only at hs
        repeat' split at hs
        all_goals first
          | (cases hs; intro p hp; simp at hp; done)
          | (cases hs; intro p hp; simp at hp; subst hp; exact .inr ⟨rfl, rfl⟩)
          | (cases hs; intro p hp; simp at hp; subst hp; left; simp [hc]; done)
          | (cases hs; intro p hp; simp at hp; rcases hp with rfl | rfl; (left; simp [hc]); exact .inr ⟨rfl, rfl⟩)
          | cases hs
      · cases hs
    · cases hs
  · cases hs
theorem srcA_mono (hm : Mono h h') {t : TypeId} {ti : TI} {x : F} {q : List F × Nat} (hs : srcA P t ti x h = some q) : srcA P t ti x h' = some q := by
  unfold srcA at hs ⊢
  split at hs
  · split at hs
    · rename_i h1 h2
      rw [rowA_mono hm h1, h2]
      exact hs
    · cases hs
  · exact hs
  · cases hs
theorem builtin_mono (hm : Mono h h') {b : Builtin} {ats : Array TypeId} {args : List V} (hb : b = .append ∨ b = .copy ∨ b = .clear) (hs : builtinA P b ats args h n = some ef) : builtinA P b ats args h' n = some ef ∧ Tidy h n ef := by
  rcases hb with rfl | rfl | rfl
  · simp only [builtinA] at hs ⊢
    split at hs
    · unfold appendB at hs ⊢
      split at hs
      · split at hs
        · split at hs
          · rename_i hp
            simp only [if_pos hp]
            split at hs
            · rename_i new m h1
              have : srcA P _ _ _ h' = some (new, m) := srcA_mono hm h1
              rw [this]
              exact appendA_mono hm hs
            · cases hs
          · cases hs
        · cases hs
      · cases hs
    · cases hs
  · simp only [builtinA] at hs ⊢
    split at hs
    · unfold copyB at hs ⊢
      split at hs
      · split at hs
        · split at hs
          · rename_i h1 h2 h3 h4
            rw [h1, h2, rowA_mono hm h3, hm _ _ h4]
            refine ⟨hs, ?_⟩
            split at hs
            · cases hs; intro p hp; simp at hp; subst hp; exact .inl (by simp [h4])
            · cases hs
          · cases hs
        · cases hs
      · cases hs
    · cases hs
  · simp only [builtinA] at hs ⊢
    split at hs
    · unfold clearB at hs ⊢
      split at hs
      · split at hs
        · cases hs; exact ⟨rfl, by intro p hp; simp at hp⟩
        · split at hs
          · rename_i h1 h2
            rw [h1, hm _ _ h2]
            refine ⟨hs, ?_⟩
            repeat' split at hs
            all_goals first
              | (cases hs; intro p hp; simp at hp; done)
              | (cases hs; intro p hp; simp at hp; subst hp; exact .inl (by simp [h2]))
              | cases hs
          · cases hs
        · cases hs
      · cases hs
    · cases hs
theorem eff_mono (hm : Mono h h') {op : Op} (hc : cls P op = .eff) (hs : stepOp P op r h n = some ef) : stepOp P op r h' n = some ef ∧ Tidy h n ef := by
  cases op <;> simp only [cls] at hc <;> first
    | (cases hc; done)
    | (simp only [stepOp] at hs; cases hs; done)
    | skip
  case makeMap t x => cases x <;> simp only [stepOp] at hs <;> first | cases hs | cases hc
  case convert s d x =>
    simp only [stepOp] at hs ⊢
    split at hs
    · rename_i hd _; rw [hd] at hc; cases hc
    · rename_i hd _; rw [hd] at hc; cases hc
    · split at hs
      · rename_i h1 h2
        rw [h1, hm _ _ h2]
        refine ⟨hs, ?_⟩
        split at hs
        · cases hs; intro p hp; simp at hp; subst hp; exact .inl (by simp [h2])
        · cases hs
      · cases hs
    · refine ⟨hs, ?_⟩
      split at hs
      · cases hs; intro p hp; simp at hp; subst hp; exact .inr ⟨rfl, rfl⟩
      · cases hs
    · cases hs
  case store t a x =>
    simp only [stepOp] at hs ⊢
    split at hs
    · split at hs
      · rename_i h1 h2 h3
        rw [hm _ _ h1, h2, h3]
        refine ⟨hs, ?_⟩
        split at hs
        · cases hs; intro p hp; simp at hp; subst hp; exact .inl (by simp [h1])
        · cases hs
      · cases hs
    · cases hs
  case mapUpdate t m k x =>
    simp only [stepOp] at hs ⊢
    split at hs
    · split at hs
      · rename_i h1
        rw [hm _ _ h1]
        refine ⟨hs, ?_⟩
        repeat' split at hs
        all_goals first
          | (cases hs; intro p hp; simp at hp; subst hp; exact .inl (by simp [h1]))
          | cases hs
      · cases hs
    · cases hs
  case range t x =>
    simp only [stepOp] at hs ⊢
    split at hs
    · cases hs; exact ⟨rfl, by intro p hp; simp at hp; subst hp; exact .inr ⟨rfl, rfl⟩⟩
    · split at hs
      · rename_i h1
        rw [hm _ _ h1]
        cases hs
        exact ⟨rfl, by intro p hp; simp at hp; subst hp; exact .inr ⟨rfl, rfl⟩⟩
      · cases hs
    · cases hs
  case next x s =>
    cases s <;> simp only [stepOp] at hs ⊢
    · split at hs
      · split at hs
        · rename_i h1
          rw [hm _ _ h1]
          cases hs
          exact ⟨rfl, by intro p hp; simp at hp⟩
        · rename_i h1
          rw [hm _ _ h1]
          split at hs
          · rename_i h2
            simp only
            rw [hm _ _ h2]
            cases hs
            exact ⟨rfl, by intro p hp; simp at hp⟩
          · cases hs
        · cases hs
      · cases hs
    · cases hs
  case call c =>
    obtain ⟨callee, args, ats⟩ := c
    cases callee with
    | builtin b =>
      simp only [stepOp] at hs ⊢
      split at hs
      · cases b <;> simp only at hc <;> first
          | (cases hc; done)
          | (simp only [builtinA] at hs; cases hs; done)
          | exact builtin_mono hm (by simp) hs
      · cases hs
    | value f => simp only [stepOp] at hs; cases hs
    | invoke a b => simp only [stepOp] at hs; cases hs
theorem app_upd {k : Nat} {ob : O} : ∀ (us : List (Nat × Option O)) (H : Heap), (∀ p ∈ us, p.1 ≠ k) → app (upd H k (some ob)) us = upd (app H us) k (some ob)
  | [], H, _ => rfl
  | (i, o) :: us, H, hne => by
    simp only [app]
    have hik : i ≠ k := hne (i, o) (by simp)
    have : upd (upd H k (some ob)) i o = upd (upd H i o) k (some ob) := by
      funext j
      unfold upd
      by_cases a : j = i
      · subst a; simp [hik]
      · simp [a]
    rw [this]
    exact app_upd us (upd H i o) fun p hp => hne p (by simp [hp])
theorem app_none {k : Nat} : ∀ (us : List (Nat × Option O)) (H : Heap), (∀ p ∈ us, p.1 ≠ k) → app H us k = H k
  | [], H, _ => rfl
  | (i, o) :: us, H, hne => by
    simp only [app]
    rw [app_none us _ fun p hp => hne p (by simp [hp]), upd_ne _ _ (Ne.symm (hne (i, o) (by simp)))]
theorem mono_upd {k : Nat} {ob : O} (hk : h k = none) : Mono h (upd h k (some ob)) := fun id o ho => by
  rw [upd_ne]; exact ho; rintro rfl; rw [hk] at ho; cases ho
theorem tidy {op : Op} (hs : stepOp P op r h n = some ef) : Tidy h n ef := by
  cases hc : cls P op with
  | quiet => obtain ⟨h1, _⟩ := quiet_form hc hs; intro p hp; rw [h1] at hp; simp at hp
  | fresh => obtain ⟨ob, h1, h2⟩ := fresh_form hc hs; intro p hp; rw [h1] at hp; simp at hp; subst hp; exact .inr ⟨rfl, h2⟩
  | eff => exact (eff_mono (h' := h) (fun _ _ x => x) hc hs).2
end
end Go.Proofs.YtkimkgbppegkhaaGreat.Cm
