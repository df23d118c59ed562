/- TablesTurned: if some bits of tables' bytes are turned, all within 32 that stand one behind the other, they are none any more, of any tables. -/
import Derived.Test.YtkeekganabafbaaXrTablesTurned
namespace Go.Proofs.Ytkeekganabafbaa.Pure
set_option linter.unusedVariables false
open Go.RowKit Go.Proofs.Ytkeekganabafbaa.X Go.Proofs.YtkeekganabafbaaW.PrintWords Go.Proofs.YtkeekganabafbaaW.PrintLast Go.Proofs.YtkeekganabafbaaW.PrintMore
theorem TablesTurned : incunablelaw22_TablesTurned.Pure := fun t0 a1 a2 h1 h2 => ⟨0, if_pos ⟨wf_i64 h1, wf_u32 h2⟩⟩
end Go.Proofs.Ytkeekganabafbaa.Pure
