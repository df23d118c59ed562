-- Laid by lawrow.py, a program of this session; checked by Lean alone.
import Derived.Test.YtkndghbognhocaaXFrWaits
import Derived.Test.YtkndghbognhocaaXRows2
namespace Go.Proofs.Ytkndghbognhocaa.X
open Go.RowKit Go.Proofs.YtkndghbognhocaaW.PrintWords Go.Proofs.YtkndghbognhocaaW.PrintLast Go.Proofs.YtkndghbognhocaaW.PrintMore
set_option linter.unusedVariables false
/-- THE ONE PURE STATEMENT of incunablelaw28_FrameWaits. -/
def incunablelaw28_FrameWaits.Pure : Prop := ∀ (l0 : List Int) (a1 : Int), l0.length ≤ maxLen → l0.length * 1 ≤ 140737488351232 → (∀ x ∈ l0, (Lit.int .u8 x).wf = true) → (Lit.int .i64 a1).wf = true → ∃ k, incunablelaw28_FrameWaits.f k l0 a1 = some true
theorem incunablelaw28_FrameWaits.walk (P : incunablelaw28_FrameWaits.Pure) (a0 : Option Addr) (cap0 : Nat) (l0 : List Int) (a1 : Int) (w : World) (hr0 : ReadsInt w .u8 a0 l0.length l0) (hc0 : l0.length ≤ cap0) (h0 : l0.length ≤ maxLen) (h1 : l0.length * 1 ≤ 140737488351232) (h2 : (∀ x ∈ l0, (Lit.int .u8 x).wf = true)) (h3 : (Lit.int .i64 a1).wf = true) :
    Calls Try.prog 8 #[.slice a0 l0.length cap0, .int .i64 a1] w fun e w' => e = .returned (.bool true) ∧ Below w.heap.size w w' := by
  obtain ⟨k, h⟩ := P l0 a1 h0 h1 h2 h3
  refine (incunablelaw28_FrameWaits.calls k _ _ l0 a1 true w (Kd.C_of_reads (d := (0 : Int)) (h1 := fun _ => rfl) hr0) hc0 h).mono ?_
  rintro e w' ⟨rfl, hd⟩
  exact ⟨rfl, by first | exact hd | exact hd.below⟩
end Go.Proofs.Ytkndghbognhocaa.X
