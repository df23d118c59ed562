-- Laid by lawrow.py, a program of this session; checked by Lean alone.
import Derived.Test.YtpmikaoheaefiaaXx18
import Derived.Test.YtpmikaoheaefiaaXRows2
import Derived.Test.YtpmikaoheaefiaaXSecs
namespace Go.Proofs.Ytpmikaoheaefiaa.X
open Go.RowKit Go.Proofs.YtpmikaoheaefiaaW.PrintWords Go.Proofs.YtpmikaoheaefiaaW.PrintLast Go.Proofs.YtpmikaoheaefiaaW.PrintMore
set_option linter.unusedVariables false
/-- THE ONE PURE STATEMENT of incunablelaw03_PackMakes. -/
def incunablelaw03_PackMakes.Pure : Prop := ∀ (a0 : Int) (l1 : List S33) (a2 : Int), (Lit.int .i64 a0).wf = true → l1.length ≤ maxLen → l1.length * 32 ≤ 140737488351232 → (∀ s ∈ l1, s.f1.length * 1 ≤ 140737488351232) → (∀ s ∈ l1, (Lit.int .i64 s.f0).wf = true) → (∀ s ∈ l1, ∀ x ∈ s.f1, (Lit.int .u8 x).wf = true) → (Lit.int .i64 a2).wf = true → ∃ k, incunablelaw03_PackMakes.f k a0 l1 a2 = some true
theorem incunablelaw03_PackMakes.walk (P : incunablelaw03_PackMakes.Pure) (a0 : Int) (a1 : Option Addr) (cap1 : Nat) (l1 : List S33) (a2 : Int) (w : World) (hr1 : Kd.C k33 w a1 l1.length l1) (hc1 : l1.length ≤ cap1) (h0 : (Lit.int .i64 a0).wf = true) (h1 : l1.length ≤ maxLen) (h2 : l1.length * 32 ≤ 140737488351232) (h3 : (∀ s ∈ l1, s.f1.length * 1 ≤ 140737488351232)) (h4 : (∀ s ∈ l1, (Lit.int .i64 s.f0).wf = true)) (h5 : (∀ s ∈ l1, ∀ x ∈ s.f1, (Lit.int .u8 x).wf = true)) (h6 : (Lit.int .i64 a2).wf = true) :
    Calls Try.prog 9 #[.int .i64 a0, .slice a1 l1.length cap1, .int .i64 a2] w fun e w' => e = .returned (.bool true) ∧ Below w.heap.size w w' := by
  obtain ⟨k, h⟩ := P a0 l1 a2 h0 h1 h2 h3 h4 h5 h6
  refine (incunablelaw03_PackMakes.calls k a0 _ _ l1 a2 true w hr1 hc1 h).mono ?_
  rintro e w' ⟨rfl, hd⟩
  exact ⟨rfl, by first | exact hd | exact hd.below⟩
end Go.Proofs.Ytpmikaoheaefiaa.X
