/- FramePieces: in whichever pieces bytes come, the same is answered, the stage's theorem. -/
import Derived.Test.YtkndghbognhocaaXrFramePieces
namespace Go.Proofs.Ytkndghbognhocaa.Pure
set_option linter.unusedVariables false
open Go.RowKit Go.Proofs.Ytkndghbognhocaa.X Go.Proofs.YtkndghbognhocaaW.PrintWords Go.Proofs.YtkndghbognhocaaW.PrintLast Go.Proofs.YtkndghbognhocaaW.PrintMore
theorem FramePieces : incunablelaw28_FramePieces.Pure := by
  intro l0 l1 h1 h2 h3 h4 h5 h6
  exact ⟨0, by unfold incunablelaw28_FramePieces.f; rw [if_pos ⟨okB_of h2 h3, okI_of h6⟩]⟩
end Go.Proofs.Ytkndghbognhocaa.Pure
