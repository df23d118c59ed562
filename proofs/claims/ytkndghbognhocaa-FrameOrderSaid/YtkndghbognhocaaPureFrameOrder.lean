/- FrameOrder: frames are taken out as they were put in, in order; what stands between is told once for each place. -/
import Derived.Test.YtkndghbognhocaaXrFrameOrder
namespace Go.Proofs.Ytkndghbognhocaa.Pure
set_option linter.unusedVariables false
open Go.RowKit Go.Proofs.Ytkndghbognhocaa.X Go.Proofs.YtkndghbognhocaaW.PrintWords Go.Proofs.YtkndghbognhocaaW.PrintLast Go.Proofs.YtkndghbognhocaaW.PrintMore
theorem okR_of {l : List (List Int)} (h1 : ∀ r ∈ l, r.length * 1 ≤ 140737488351232) (h2 : ∀ r ∈ l, ∀ x ∈ r, (Lit.int .u8 x).wf = true) : okR l = true := by
  unfold okR
  rw [List.all_eq_true]
  exact fun r hr => okB_of (h1 r hr) (h2 r hr)
theorem FrameOrder : incunablelaw28_FrameOrder.Pure := by
  intro l0 l1 _ h1 h2 h3 _ h5 h6 h7
  exact ⟨0, by unfold incunablelaw28_FrameOrder.f; rw [if_pos ⟨okR_of h2 h3, okR_of h6 h7, by omega, by omega⟩]⟩
end Go.Proofs.Ytkndghbognhocaa.Pure
