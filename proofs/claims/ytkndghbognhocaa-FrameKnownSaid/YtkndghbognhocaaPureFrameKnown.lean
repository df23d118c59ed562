/- FrameKnown: the chapter's numbers and examples, both ends, readers that are none. -/
import Derived.Test.YtkndghbognhocaaXrFrameKnown
namespace Go.Proofs.Ytkndghbognhocaa.Pure
set_option linter.unusedVariables false
open Go.RowKit Go.Proofs.Ytkndghbognhocaa.X Go.Proofs.YtkndghbognhocaaW.PrintWords Go.Proofs.YtkndghbognhocaaW.PrintLast Go.Proofs.YtkndghbognhocaaW.PrintMore
theorem FrameKnown : incunablelaw28_FrameKnown.Pure := ⟨0, rfl⟩
end Go.Proofs.Ytkndghbognhocaa.Pure
