-- Laid by lawrow.py, a program of this session; checked by Lean alone.
import Derived.Test.YtkeekganabafbaaXJSa13
namespace Go.Proofs.Ytkeekganabafbaa.X
open Go.RowKit Go.Proofs.YtkeekganabafbaaW.PrintWords Go.Proofs.YtkeekganabafbaaW.PrintLast Go.Proofs.YtkeekganabafbaaW.PrintMore
set_option linter.unusedVariables false
/-- THE ONE PURE STATEMENT of incunablelaw22_TablesSame. -/
def incunablelaw22_TablesSame.Pure : Prop := ∀ (t0 : Tab) (t1 : Tab), ∃ k, incunablelaw22_TablesSame.f k t0 t1 = some true
theorem incunablelaw22_TablesSame.walk (P : incunablelaw22_TablesSame.Pure) (pl0 : TL) (t0 : Tab) (pl1 : TL) (t1 : Tab) (w : World) (hr0 : TabR w t0 pl0 ∧ TSmall t0) (hr1 : TabR w t1 pl1 ∧ TSmall t1)  :
    Calls Try.prog 3 #[.agg (tcells t0 pl0).toArray, .agg (tcells t1 pl1).toArray] w fun e w' => e = .returned (.bool true) ∧ Below w.heap.size w w' := by
  obtain ⟨k, h⟩ := P t0 t1 
  refine (incunablelaw22_TablesSame.calls k _ t0 _ t1 true w hr0 hr1 h).mono ?_
  rintro e w' ⟨rfl, hd⟩
  exact ⟨rfl, by first | exact hd | exact hd.below⟩
end Go.Proofs.Ytkeekganabafbaa.X
