/- FrameWaits: of a frame that is not there yet nothing is answered, and all its bytes wait; then all is. -/
import Derived.Test.YtkndghbognhocaaXrFrameWaits
namespace Go.Proofs.Ytkndghbognhocaa.Pure
set_option linter.unusedVariables false
open Go.RowKit Go.Proofs.Ytkndghbognhocaa.X Go.Proofs.YtkndghbognhocaaW.PrintWords Go.Proofs.YtkndghbognhocaaW.PrintLast Go.Proofs.YtkndghbognhocaaW.PrintMore
theorem FrameWaits : incunablelaw28_FrameWaits.Pure := by
  intro l0 a1 h1 h2 h3 h4
  exact ⟨0, by unfold incunablelaw28_FrameWaits.f; rw [if_pos ⟨okB_of h2 h3, wf_i64 h4⟩]⟩
end Go.Proofs.Ytkndghbognhocaa.Pure
