-- Laid by lawrow.py, a program of this session; checked by Lean alone.
import Derived.Test.YtkndghbognhocaaXFrOrder
import Derived.Test.YtkndghbognhocaaXRows2
namespace Go.Proofs.Ytkndghbognhocaa.X
open Go.RowKit Go.Proofs.YtkndghbognhocaaW.PrintWords Go.Proofs.YtkndghbognhocaaW.PrintLast Go.Proofs.YtkndghbognhocaaW.PrintMore
set_option linter.unusedVariables false
/-- THE ONE PURE STATEMENT of incunablelaw28_FrameOrder. -/
def incunablelaw28_FrameOrder.Pure : Prop := ∀ (l0 : List (List Int)) (l1 : List (List Int)), l0.length ≤ maxLen → l0.length * 24 ≤ 140737488351232 → (∀ r ∈ l0, r.length * 1 ≤ 140737488351232) → (∀ r ∈ l0, ∀ x ∈ r, (Lit.int .u8 x).wf = true) → l1.length ≤ maxLen → l1.length * 24 ≤ 140737488351232 → (∀ r ∈ l1, r.length * 1 ≤ 140737488351232) → (∀ r ∈ l1, ∀ x ∈ r, (Lit.int .u8 x).wf = true) → ∃ k, incunablelaw28_FrameOrder.f k l0 l1 = some true
theorem incunablelaw28_FrameOrder.walk (P : incunablelaw28_FrameOrder.Pure) (a0 : Option Addr) (cap0 : Nat) (l0 : List (List Int)) (a1 : Option Addr) (cap1 : Nat) (l1 : List (List Int)) (w : World) (hr0 : (Kd.slice 5 (Kd.int .u8)).C w a0 l0.length l0) (hc0 : l0.length ≤ cap0) (hr1 : (Kd.slice 5 (Kd.int .u8)).C w a1 l1.length l1) (hc1 : l1.length ≤ cap1) (h0 : l0.length ≤ maxLen) (h1 : l0.length * 24 ≤ 140737488351232) (h2 : (∀ r ∈ l0, r.length * 1 ≤ 140737488351232)) (h3 : (∀ r ∈ l0, ∀ x ∈ r, (Lit.int .u8 x).wf = true)) (h4 : l1.length ≤ maxLen) (h5 : l1.length * 24 ≤ 140737488351232) (h6 : (∀ r ∈ l1, r.length * 1 ≤ 140737488351232)) (h7 : (∀ r ∈ l1, ∀ x ∈ r, (Lit.int .u8 x).wf = true)) :
    Calls Try.prog 6 #[.slice a0 l0.length cap0, .slice a1 l1.length cap1] w fun e w' => e = .returned (.bool true) ∧ Below w.heap.size w w' := by
  obtain ⟨k, h⟩ := P l0 l1 h0 h1 h2 h3 h4 h5 h6 h7
  refine (incunablelaw28_FrameOrder.calls k _ _ l0 _ _ l1 true w hr0 hc0 hr1 hc1 h).mono ?_
  rintro e w' ⟨rfl, hd⟩
  exact ⟨rfl, by first | exact hd | exact hd.below⟩
end Go.Proofs.Ytkndghbognhocaa.X
