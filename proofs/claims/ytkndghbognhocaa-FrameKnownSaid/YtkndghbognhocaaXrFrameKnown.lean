-- Laid by lawrow.py, a program of this session; checked by Lean alone.
import Derived.Test.YtkndghbognhocaaXFrKnown
import Derived.Test.YtkndghbognhocaaXRows2
namespace Go.Proofs.Ytkndghbognhocaa.X
open Go.RowKit Go.Proofs.YtkndghbognhocaaW.PrintWords Go.Proofs.YtkndghbognhocaaW.PrintLast Go.Proofs.YtkndghbognhocaaW.PrintMore
set_option linter.unusedVariables false
/-- THE ONE PURE STATEMENT of incunablelaw28_FrameKnown. -/
def incunablelaw28_FrameKnown.Pure : Prop := ∃ k, incunablelaw28_FrameKnown.f k  = some true
theorem incunablelaw28_FrameKnown.walk (P : incunablelaw28_FrameKnown.Pure)  (w : World)   :
    Calls Try.prog 9 #[] w fun e w' => e = .returned (.bool true) ∧ Below w.heap.size w w' := by
  obtain ⟨k, h⟩ := P  
  refine (incunablelaw28_FrameKnown.calls k  true w  h).mono ?_
  rintro e w' ⟨rfl, hd⟩
  exact ⟨rfl, by first | exact hd | exact hd.below⟩
end Go.Proofs.Ytkndghbognhocaa.X
