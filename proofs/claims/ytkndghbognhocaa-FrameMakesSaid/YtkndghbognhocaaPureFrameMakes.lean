/- FrameMakes: Frame returns what the document says, of all bytes; the chapter's examples. -/
import Derived.Test.YtkndghbognhocaaXrFrameMakes
namespace Go.Proofs.Ytkndghbognhocaa.Pure
set_option linter.unusedVariables false
open Go.RowKit Go.Proofs.Ytkndghbognhocaa.X Go.Proofs.YtkndghbognhocaaW.PrintWords Go.Proofs.YtkndghbognhocaaW.PrintLast Go.Proofs.YtkndghbognhocaaW.PrintMore
theorem FrameMakes : incunablelaw28_FrameMakes.Pure := by
  intro l0 h1 h2 h3
  exact ⟨0, by unfold incunablelaw28_FrameMakes.f; rw [if_pos (okB_of h2 h3)]⟩
end Go.Proofs.Ytkndghbognhocaa.Pure
