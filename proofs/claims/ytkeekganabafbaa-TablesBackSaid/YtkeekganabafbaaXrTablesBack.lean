-- Laid by lawrow.py, a program of this session; checked by Lean alone.
import Derived.Test.YtkeekganabafbaaXJBa13
namespace Go.Proofs.Ytkeekganabafbaa.X
open Go.RowKit Go.Proofs.YtkeekganabafbaaW.PrintWords Go.Proofs.YtkeekganabafbaaW.PrintLast Go.Proofs.YtkeekganabafbaaW.PrintMore
set_option linter.unusedVariables false
/-- THE ONE PURE STATEMENT of incunablelaw22_TablesBack. -/
def incunablelaw22_TablesBack.Pure : Prop := ∀ (t0 : Tab), ∃ k, incunablelaw22_TablesBack.f k t0 = some true
theorem incunablelaw22_TablesBack.walk (P : incunablelaw22_TablesBack.Pure) (pl0 : TL) (t0 : Tab) (w : World) (hr0 : TabR w t0 pl0 ∧ TSmall t0)  :
    Calls Try.prog 6 #[.agg (tcells t0 pl0).toArray] w fun e w' => e = .returned (.bool true) ∧ Below w.heap.size w w' := by
  obtain ⟨k, h⟩ := P t0 
  refine (incunablelaw22_TablesBack.calls k _ t0 true w hr0 h).mono ?_
  rintro e w' ⟨rfl, hd⟩
  exact ⟨rfl, by first | exact hd | exact hd.below⟩
end Go.Proofs.Ytkeekganabafbaa.X
