-- Laid by lawrow.py, a program of this session; checked by Lean alone.
import Derived.Test.YtpmikaoheaefiaaXx25
import Derived.Test.YtpmikaoheaefiaaXRows2
namespace Go.Proofs.Ytpmikaoheaefiaa.X
open Go.RowKit Go.Proofs.YtpmikaoheaefiaaW.PrintWords Go.Proofs.YtpmikaoheaefiaaW.PrintLast Go.Proofs.YtpmikaoheaefiaaW.PrintMore
set_option linter.unusedVariables false
/-- THE ONE PURE STATEMENT of incunablelaw03_PackTurned. -/
def incunablelaw03_PackTurned.Pure : Prop := ∀ (l0 : List (List Int)) (a1 : Int) (a2 : Int), l0.length ≤ maxLen → l0.length * 24 ≤ 140737488351232 → (∀ r ∈ l0, r.length * 1 ≤ 140737488351232) → (∀ r ∈ l0, ∀ x ∈ r, (Lit.int .u8 x).wf = true) → (Lit.int .i64 a1).wf = true → (Lit.int .u32 a2).wf = true → ∃ k, incunablelaw03_PackTurned.f k l0 a1 a2 = some true
theorem incunablelaw03_PackTurned.walk (P : incunablelaw03_PackTurned.Pure) (a0 : Option Addr) (cap0 : Nat) (l0 : List (List Int)) (a1 : Int) (a2 : Int) (w : World) (hr0 : (Kd.slice 5 (Kd.int .u8)).C w a0 l0.length l0) (hc0 : l0.length ≤ cap0) (h0 : l0.length ≤ maxLen) (h1 : l0.length * 24 ≤ 140737488351232) (h2 : (∀ r ∈ l0, r.length * 1 ≤ 140737488351232)) (h3 : (∀ r ∈ l0, ∀ x ∈ r, (Lit.int .u8 x).wf = true)) (h4 : (Lit.int .i64 a1).wf = true) (h5 : (Lit.int .u32 a2).wf = true) :
    Calls Try.prog 6 #[.slice a0 l0.length cap0, .int .i64 a1, .int .u32 a2] w fun e w' => e = .returned (.bool true) ∧ Below w.heap.size w w' := by
  obtain ⟨k, h⟩ := P l0 a1 a2 h0 h1 h2 h3 h4 h5
  refine (incunablelaw03_PackTurned.calls k _ _ l0 a1 a2 true w hr0 hc0 h).mono ?_
  rintro e w' ⟨rfl, hd⟩
  exact ⟨rfl, by first | exact hd | exact hd.below⟩
end Go.Proofs.Ytpmikaoheaefiaa.X
