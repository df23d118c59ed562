/- TablesSame: Same is so of tables and themselves, of both alike; tables that may be are the same just if their bytes are, of any two tables. -/
import Derived.Test.YtkeekganabafbaaXrTablesSame
namespace Go.Proofs.Ytkeekganabafbaa.Pure
set_option linter.unusedVariables false
open Go.RowKit Go.Proofs.Ytkeekganabafbaa.X Go.Proofs.YtkeekganabafbaaW.PrintWords Go.Proofs.YtkeekganabafbaaW.PrintLast Go.Proofs.YtkeekganabafbaaW.PrintMore
theorem TablesSame : incunablelaw22_TablesSame.Pure := fun t0 t1 => ⟨0, rfl⟩
end Go.Proofs.Ytkeekganabafbaa.Pure
