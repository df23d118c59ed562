-- Laid by lawrow.py, a program of this session; checked by Lean alone.
import Derived.Test.YtpmikaoheaefiaaXx9
import Derived.Test.YtpmikaoheaefiaaXRows2
namespace Go.Proofs.Ytpmikaoheaefiaa.X
open Go.RowKit Go.Proofs.YtpmikaoheaefiaaW.PrintWords Go.Proofs.YtpmikaoheaefiaaW.PrintLast Go.Proofs.YtpmikaoheaefiaaW.PrintMore
set_option linter.unusedVariables false
/-- THE ONE PURE STATEMENT of incunablelaw03_PackKnown. -/
def incunablelaw03_PackKnown.Pure : Prop := ∃ k, incunablelaw03_PackKnown.f k  = some true
theorem incunablelaw03_PackKnown.walk (P : incunablelaw03_PackKnown.Pure)  (w : World)   :
    Calls Try.prog 8 #[] w fun e w' => e = .returned (.bool true) ∧ Below w.heap.size w w' := by
  obtain ⟨k, h⟩ := P  
  refine (incunablelaw03_PackKnown.calls k  true w  h).mono ?_
  rintro e w' ⟨rfl, hd⟩
  exact ⟨rfl, by first | exact hd | exact hd.below⟩
end Go.Proofs.Ytpmikaoheaefiaa.X
