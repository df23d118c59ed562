-- Laid by lawrow.py, a program of this session; checked by Lean alone.
import Derived.Test.YtkeekganabafbaaXJTa13
namespace Go.Proofs.Ytkeekganabafbaa.X
open Go.RowKit Go.Proofs.YtkeekganabafbaaW.PrintWords Go.Proofs.YtkeekganabafbaaW.PrintLast Go.Proofs.YtkeekganabafbaaW.PrintMore
set_option linter.unusedVariables false
/-- THE ONE PURE STATEMENT of incunablelaw22_TablesAgain. -/
def incunablelaw22_TablesAgain.Pure : Prop := ∀ (l0 : List Int), l0.length ≤ maxLen → l0.length * 1 ≤ 140737488351232 → (∀ x ∈ l0, (Lit.int .u8 x).wf = true) → ∃ k, incunablelaw22_TablesAgain.f k l0 = some true
theorem incunablelaw22_TablesAgain.walk (P : incunablelaw22_TablesAgain.Pure) (a0 : Option Addr) (cap0 : Nat) (l0 : List Int) (w : World) (hr0 : ReadsInt w .u8 a0 l0.length l0) (hc0 : l0.length ≤ cap0) (h0 : l0.length ≤ maxLen) (h1 : l0.length * 1 ≤ 140737488351232) (h2 : (∀ x ∈ l0, (Lit.int .u8 x).wf = true)) :
    Calls Try.prog 7 #[.slice a0 l0.length cap0] w fun e w' => e = .returned (.bool true) ∧ Below w.heap.size w w' := by
  obtain ⟨k, h⟩ := P l0 h0 h1 h2
  refine (incunablelaw22_TablesAgain.calls k _ _ l0 true w (Kd.C_of_reads (d := (0 : Int)) (h1 := fun _ => rfl) hr0) hc0 h).mono ?_
  rintro e w' ⟨rfl, hd⟩
  exact ⟨rfl, by first | exact hd | exact hd.below⟩
end Go.Proofs.Ytkeekganabafbaa.X
