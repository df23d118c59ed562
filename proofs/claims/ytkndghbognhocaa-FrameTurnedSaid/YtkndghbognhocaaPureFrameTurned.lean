/- FrameTurned: if up to 32 bits, one behind the other, are turned in a frame, other bytes are never answered in its place. -/
import Derived.Test.YtkndghbognhocaaXrFrameTurned
namespace Go.Proofs.Ytkndghbognhocaa.Pure
set_option linter.unusedVariables false
open Go.RowKit Go.Proofs.Ytkndghbognhocaa.X Go.Proofs.YtkndghbognhocaaW.PrintWords Go.Proofs.YtkndghbognhocaaW.PrintLast Go.Proofs.YtkndghbognhocaaW.PrintMore
theorem wf_u32' {x : Int} (h : (Lit.int .u32 x).wf = true) : 0 ≤ x ∧ x < 4294967296 := wf_u32 h
theorem FrameTurned : incunablelaw28_FrameTurned.Pure := by
  intro l0 a1 a2 h1 h2 h3 h4 h5
  exact ⟨0, by unfold incunablelaw28_FrameTurned.f; rw [if_pos ⟨okB_of h2 h3, wf_i64 h4, wf_u32' h5⟩]⟩
end Go.Proofs.Ytkndghbognhocaa.Pure
