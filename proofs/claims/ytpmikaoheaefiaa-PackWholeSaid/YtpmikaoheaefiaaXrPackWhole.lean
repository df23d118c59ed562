-- Laid by lawrow.py, a program of this session; checked by Lean alone.
import Derived.Test.YtpmikaoheaefiaaXx26
import Derived.Test.YtpmikaoheaefiaaXRows2
namespace Go.Proofs.Ytpmikaoheaefiaa.X
open Go.RowKit Go.Proofs.YtpmikaoheaefiaaW.PrintWords Go.Proofs.YtpmikaoheaefiaaW.PrintLast Go.Proofs.YtpmikaoheaefiaaW.PrintMore
set_option linter.unusedVariables false
/-- THE ONE PURE STATEMENT of incunablelaw03_PackWhole. -/
def incunablelaw03_PackWhole.Pure : Prop := ∀ (l0 : List (List Int)) (a1 : Int) (l2 : List Int), l0.length ≤ maxLen → l0.length * 24 ≤ 140737488351232 → (∀ r ∈ l0, r.length * 1 ≤ 140737488351232) → (∀ r ∈ l0, ∀ x ∈ r, (Lit.int .u8 x).wf = true) → (Lit.int .i64 a1).wf = true → l2.length ≤ maxLen → l2.length * 1 ≤ 140737488351232 → (∀ x ∈ l2, (Lit.int .u8 x).wf = true) → ∃ k, incunablelaw03_PackWhole.f k l0 a1 l2 = some true
theorem incunablelaw03_PackWhole.walk (P : incunablelaw03_PackWhole.Pure) (a0 : Option Addr) (cap0 : Nat) (l0 : List (List Int)) (a1 : Int) (a2 : Option Addr) (cap2 : Nat) (l2 : List Int) (w : World) (hr0 : (Kd.slice 5 (Kd.int .u8)).C w a0 l0.length l0) (hc0 : l0.length ≤ cap0) (hr2 : ReadsInt w .u8 a2 l2.length l2) (hc2 : l2.length ≤ cap2) (h0 : l0.length ≤ maxLen) (h1 : l0.length * 24 ≤ 140737488351232) (h2 : (∀ r ∈ l0, r.length * 1 ≤ 140737488351232)) (h3 : (∀ r ∈ l0, ∀ x ∈ r, (Lit.int .u8 x).wf = true)) (h4 : (Lit.int .i64 a1).wf = true) (h5 : l2.length ≤ maxLen) (h6 : l2.length * 1 ≤ 140737488351232) (h7 : (∀ x ∈ l2, (Lit.int .u8 x).wf = true)) :
    Calls Try.prog 7 #[.slice a0 l0.length cap0, .int .i64 a1, .slice a2 l2.length cap2] w fun e w' => e = .returned (.bool true) ∧ Below w.heap.size w w' := by
  obtain ⟨k, h⟩ := P l0 a1 l2 h0 h1 h2 h3 h4 h5 h6 h7
  refine (incunablelaw03_PackWhole.calls k _ _ l0 a1 _ _ l2 true w hr0 hc0 (Kd.C_of_reads (d := (0 : Int)) (h1 := fun _ => rfl) hr2) hc2 h).mono ?_
  rintro e w' ⟨rfl, hd⟩
  exact ⟨rfl, by first | exact hd | exact hd.below⟩
end Go.Proofs.Ytpmikaoheaefiaa.X
