-- Laid by lawrow.py, a program of this session; checked by Lean alone.
import Derived.Test.YtkeekganabafbaaXJTu13
namespace Go.Proofs.Ytkeekganabafbaa.X
open Go.RowKit Go.Proofs.YtkeekganabafbaaW.PrintWords Go.Proofs.YtkeekganabafbaaW.PrintLast Go.Proofs.YtkeekganabafbaaW.PrintMore
set_option linter.unusedVariables false
/-- THE ONE PURE STATEMENT of incunablelaw22_TablesTurned. -/
def incunablelaw22_TablesTurned.Pure : Prop := ∀ (t0 : Tab) (a1 : Int) (a2 : Int), (Lit.int .i64 a1).wf = true → (Lit.int .u32 a2).wf = true → ∃ k, incunablelaw22_TablesTurned.f k t0 a1 a2 = some true
theorem incunablelaw22_TablesTurned.walk (P : incunablelaw22_TablesTurned.Pure) (pl0 : TL) (t0 : Tab) (a1 : Int) (a2 : Int) (w : World) (hr0 : TabR w t0 pl0 ∧ TSmall t0) (h0 : (Lit.int .i64 a1).wf = true) (h1 : (Lit.int .u32 a2).wf = true) :
    Calls Try.prog 8 #[.agg (tcells t0 pl0).toArray, .int .i64 a1, .int .u32 a2] w fun e w' => e = .returned (.bool true) ∧ Below w.heap.size w w' := by
  obtain ⟨k, h⟩ := P t0 a1 a2 h0 h1
  refine (incunablelaw22_TablesTurned.calls k _ t0 a1 a2 true w hr0 h).mono ?_
  rintro e w' ⟨rfl, hd⟩
  exact ⟨rfl, by first | exact hd | exact hd.below⟩
end Go.Proofs.Ytkeekganabafbaa.X
