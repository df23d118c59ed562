/- TablesBack: what was written is read unchanged, of any tables. -/
import Derived.Test.YtkeekganabafbaaXrTablesBack
namespace Go.Proofs.Ytkeekganabafbaa.Pure
set_option linter.unusedVariables false
open Go.RowKit Go.Proofs.Ytkeekganabafbaa.X Go.Proofs.YtkeekganabafbaaW.PrintWords Go.Proofs.YtkeekganabafbaaW.PrintLast Go.Proofs.YtkeekganabafbaaW.PrintMore
theorem TablesBack : incunablelaw22_TablesBack.Pure := fun t0 => ⟨0, rfl⟩
end Go.Proofs.Ytkeekganabafbaa.Pure
