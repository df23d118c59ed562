/- FrameReads: what a reader answers, piece by piece, is what the document's reader answers. -/
import Derived.Test.YtkndghbognhocaaXrFrameReads
namespace Go.Proofs.Ytkndghbognhocaa.Pure
set_option linter.unusedVariables false
open Go.RowKit Go.Proofs.Ytkndghbognhocaa.X Go.Proofs.YtkndghbognhocaaW.PrintWords Go.Proofs.YtkndghbognhocaaW.PrintLast Go.Proofs.YtkndghbognhocaaW.PrintMore
theorem okRows_of {l : List (List Int)} (h1 : ∀ r ∈ l, r.length * 1 ≤ 140737488351232) (h2 : ∀ r ∈ l, ∀ x ∈ r, (Lit.int .u8 x).wf = true) : okRows l = true := by
  unfold okRows
  rw [List.all_eq_true]
  exact fun r hr => okB_of (h1 r hr) (h2 r hr)
theorem FrameReads : incunablelaw28_FrameReads.Pure := by
  intro l0 l1 _ h1 h2 h3 h4 h5 h6
  exact ⟨0, by unfold incunablelaw28_FrameReads.f; rw [if_pos ⟨okRows_of h2 h3, okZ_of h6, by omega, by omega⟩]⟩
end Go.Proofs.Ytkndghbognhocaa.Pure
