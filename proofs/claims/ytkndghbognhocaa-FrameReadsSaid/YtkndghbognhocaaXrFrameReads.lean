-- Laid by lawrow.py, a program of this session; checked by Lean alone.
import Derived.Test.YtkndghbognhocaaXFrReads
import Derived.Test.YtkndghbognhocaaXRows2
namespace Go.Proofs.Ytkndghbognhocaa.X
open Go.RowKit Go.Proofs.YtkndghbognhocaaW.PrintWords Go.Proofs.YtkndghbognhocaaW.PrintLast Go.Proofs.YtkndghbognhocaaW.PrintMore
set_option linter.unusedVariables false
/-- THE ONE PURE STATEMENT of incunablelaw28_FrameReads. -/
def incunablelaw28_FrameReads.Pure : Prop := ∀ (l0 : List (List Int)) (l1 : List Int), l0.length ≤ maxLen → l0.length * 24 ≤ 140737488351232 → (∀ r ∈ l0, r.length * 1 ≤ 140737488351232) → (∀ r ∈ l0, ∀ x ∈ r, (Lit.int .u8 x).wf = true) → l1.length ≤ maxLen → l1.length * 8 ≤ 140737488351232 → (∀ x ∈ l1, (Lit.int .i64 x).wf = true) → ∃ k, incunablelaw28_FrameReads.f k l0 l1 = some true
theorem incunablelaw28_FrameReads.walk (P : incunablelaw28_FrameReads.Pure) (a0 : Option Addr) (cap0 : Nat) (l0 : List (List Int)) (a1 : Option Addr) (cap1 : Nat) (l1 : List Int) (w : World) (hr0 : (Kd.slice 5 (Kd.int .u8)).C w a0 l0.length l0) (hc0 : l0.length ≤ cap0) (hr1 : ReadsInt w .i64 a1 l1.length l1) (hc1 : l1.length ≤ cap1) (h0 : l0.length ≤ maxLen) (h1 : l0.length * 24 ≤ 140737488351232) (h2 : (∀ r ∈ l0, r.length * 1 ≤ 140737488351232)) (h3 : (∀ r ∈ l0, ∀ x ∈ r, (Lit.int .u8 x).wf = true)) (h4 : l1.length ≤ maxLen) (h5 : l1.length * 8 ≤ 140737488351232) (h6 : (∀ x ∈ l1, (Lit.int .i64 x).wf = true)) :
    Calls Try.prog 4 #[.slice a0 l0.length cap0, .slice a1 l1.length cap1] w fun e w' => e = .returned (.bool true) ∧ Below w.heap.size w w' := by
  obtain ⟨k, h⟩ := P l0 l1 h0 h1 h2 h3 h4 h5 h6
  refine (incunablelaw28_FrameReads.calls k _ _ l0 _ _ l1 true w hr0 hc0 (Kd.C_of_reads (d := (0 : Int)) (h1 := fun _ => rfl) hr1) hc1 h).mono ?_
  rintro e w' ⟨rfl, hd⟩
  exact ⟨rfl, by first | exact hd | exact hd.below⟩
end Go.Proofs.Ytkndghbognhocaa.X
