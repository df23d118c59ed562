-- Laid by lawrow.py, a program of this session; checked by Lean alone.
import Derived.Test.YtkndghbognhocaaXFrTurned
import Derived.Test.YtkndghbognhocaaXRows2
namespace Go.Proofs.Ytkndghbognhocaa.X
open Go.RowKit Go.Proofs.YtkndghbognhocaaW.PrintWords Go.Proofs.YtkndghbognhocaaW.PrintLast Go.Proofs.YtkndghbognhocaaW.PrintMore
set_option linter.unusedVariables false
/-- THE ONE PURE STATEMENT of incunablelaw28_FrameTurned. -/
def incunablelaw28_FrameTurned.Pure : Prop := ∀ (l0 : List Int) (a1 : Int) (a2 : Int), l0.length ≤ maxLen → l0.length * 1 ≤ 140737488351232 → (∀ x ∈ l0, (Lit.int .u8 x).wf = true) → (Lit.int .i64 a1).wf = true → (Lit.int .u32 a2).wf = true → ∃ k, incunablelaw28_FrameTurned.f k l0 a1 a2 = some true
theorem incunablelaw28_FrameTurned.walk (P : incunablelaw28_FrameTurned.Pure) (a0 : Option Addr) (cap0 : Nat) (l0 : List Int) (a1 : Int) (a2 : Int) (w : World) (hr0 : ReadsInt w .u8 a0 l0.length l0) (hc0 : l0.length ≤ cap0) (h0 : l0.length ≤ maxLen) (h1 : l0.length * 1 ≤ 140737488351232) (h2 : (∀ x ∈ l0, (Lit.int .u8 x).wf = true)) (h3 : (Lit.int .i64 a1).wf = true) (h4 : (Lit.int .u32 a2).wf = true) :
    Calls Try.prog 7 #[.slice a0 l0.length cap0, .int .i64 a1, .int .u32 a2] w fun e w' => e = .returned (.bool true) ∧ Below w.heap.size w w' := by
  obtain ⟨k, h⟩ := P l0 a1 a2 h0 h1 h2 h3 h4
  refine (incunablelaw28_FrameTurned.calls k _ _ l0 a1 a2 true w (Kd.C_of_reads (d := (0 : Int)) (h1 := fun _ => rfl) hr0) hc0 h).mono ?_
  rintro e w' ⟨rfl, hd⟩
  exact ⟨rfl, by first | exact hd | exact hd.below⟩
end Go.Proofs.Ytkndghbognhocaa.X
