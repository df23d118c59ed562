/- TablesAgain: what can be read is written so, and may be, of all bytes. -/
import Derived.Test.YtkeekganabafbaaXrTablesAgain
namespace Go.Proofs.Ytkeekganabafbaa.Pure
set_option linter.unusedVariables false
open Go.RowKit Go.Proofs.Ytkeekganabafbaa.X Go.Proofs.YtkeekganabafbaaW.PrintWords Go.Proofs.YtkeekganabafbaaW.PrintLast Go.Proofs.YtkeekganabafbaaW.PrintMore
theorem TablesAgain : incunablelaw22_TablesAgain.Pure := by
  intro l0 h1 h2 h3
  have hA : okA l0 = true := by
    unfold okA
    rw [List.all_eq_true]
    intro x hx
    have := wf_u8 (h3 x hx)
    rw [decide_eq_true this.1, decide_eq_true this.2]
    rfl
  have hL : l0.length ≤ 9223372036854775800 := by omega
  exact ⟨0, by unfold incunablelaw22_TablesAgain.f; exact if_pos ⟨hA, hL⟩⟩
end Go.Proofs.Ytkeekganabafbaa.Pure
