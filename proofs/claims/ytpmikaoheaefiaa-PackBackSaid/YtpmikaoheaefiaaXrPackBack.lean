-- Laid by lawrow.py, a program of this session; checked by Lean alone.
import Derived.Test.YtpmikaoheaefiaaXx24
import Derived.Test.YtpmikaoheaefiaaXRows2
namespace Go.Proofs.Ytpmikaoheaefiaa.X
open Go.RowKit Go.Proofs.YtpmikaoheaefiaaW.PrintWords Go.Proofs.YtpmikaoheaefiaaW.PrintLast Go.Proofs.YtpmikaoheaefiaaW.PrintMore
set_option linter.unusedVariables false
/-- THE ONE PURE STATEMENT of incunablelaw03_PackBack. -/
def incunablelaw03_PackBack.Pure : Prop := ∀ (a0 : Int) (l1 : List (List Int)), (Lit.int .i64 a0).wf = true → l1.length ≤ maxLen → l1.length * 24 ≤ 140737488351232 → (∀ r ∈ l1, r.length * 1 ≤ 140737488351232) → (∀ r ∈ l1, ∀ x ∈ r, (Lit.int .u8 x).wf = true) → ∃ k, incunablelaw03_PackBack.f k a0 l1 = some true
theorem incunablelaw03_PackBack.walk (P : incunablelaw03_PackBack.Pure) (a0 : Int) (a1 : Option Addr) (cap1 : Nat) (l1 : List (List Int)) (w : World) (hr1 : (Kd.slice 5 (Kd.int .u8)).C w a1 l1.length l1) (hc1 : l1.length ≤ cap1) (h0 : (Lit.int .i64 a0).wf = true) (h1 : l1.length ≤ maxLen) (h2 : l1.length * 24 ≤ 140737488351232) (h3 : (∀ r ∈ l1, r.length * 1 ≤ 140737488351232)) (h4 : (∀ r ∈ l1, ∀ x ∈ r, (Lit.int .u8 x).wf = true)) :
    Calls Try.prog 4 #[.int .i64 a0, .slice a1 l1.length cap1] w fun e w' => e = .returned (.bool true) ∧ Below w.heap.size w w' := by
  obtain ⟨k, h⟩ := P a0 l1 h0 h1 h2 h3 h4
  refine (incunablelaw03_PackBack.calls k a0 _ _ l1 true w hr1 hc1 h).mono ?_
  rintro e w' ⟨rfl, hd⟩
  exact ⟨rfl, by first | exact hd | exact hd.below⟩
end Go.Proofs.Ytpmikaoheaefiaa.X
