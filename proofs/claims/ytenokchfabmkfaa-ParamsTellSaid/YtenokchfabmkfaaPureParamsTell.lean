/- ParamsTell (chapter 5): for every k, s, h the numbers of a block are what the document says; no condition. -/
import Derived.Test.YtenokchfabmkfaaPParamsTellx3
namespace Go.Proofs.Ytenokchfabmkfaa.Pure
open Go.RowKit Go.Proofs.Ytenokchfabmkfaa.PParamsTell Go.Proofs.YtenokchfabmkfaaW.PrintWords Go.Proofs.YtenokchfabmkfaaW.PrintLast

theorem alive_true : fountainlaw5_alive.f = some true := by decide +kernel

theorem j0_true (a0 a1 a2 : Int) (b : Bool) : fountainlaw5_ParamsTell.j0 3 a0 a1 a2 true b = some true := by
  cases b with
  | true => simp only [fountainlaw5_ParamsTell.j0, if_true]
  | false =>
    simp only [fountainlaw5_ParamsTell.j0, params_Params_W.f, params_Params_L.f, Option.bind_some, if_true, bne_self_eq_false]
    by_cases h1 : a0 < 1
    · simp [params_Of.f, h1, fountainlaw5_ParamsTell.j1, fountainlaw5_ParamsTell.j2, fountainlaw5_num.f]
    · by_cases h2 : a0 > 40
      · simp [params_Of.f, h1, h2, fountainlaw5_ParamsTell.j1, fountainlaw5_ParamsTell.j2, fountainlaw5_num.f]
      · simp [params_Of.f, h1, h2, fountainlaw5_ParamsTell.j1, fountainlaw5_ParamsTell.j2, fountainlaw5_num.f, fountainref1_S.f, fountainref1_W.f, fountainref1_L.f, params_Params_W.f, params_Params_L.f]

theorem ParamsTell : fountainlaw5_ParamsTell.Pure := by
  intro a0 a1 a2 _ _ _
  refine ⟨3, ?_⟩
  unfold fountainlaw5_ParamsTell.f
  rw [alive_true]
  simp only [Option.bind_some, if_true]
  repeat' split
  all_goals exact j0_true _ _ _ _

end Go.Proofs.Ytenokchfabmkfaa.Pure
