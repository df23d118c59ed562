-- Laid by lawrow.py, a program of this session; checked by Lean alone.
import Derived.Test.YtnonhhblfmceaaaXx28
import Derived.Test.YtnonhhblfmceaaaXRows2
namespace Go.Proofs.Ytnonhhblfmceaaa.X
open Go.RowKit Go.Proofs.YtnonhhblfmceaaaW.PrintWords Go.Proofs.YtnonhhblfmceaaaW.PrintLast Go.Proofs.YtnonhhblfmceaaaW.PrintMore
set_option linter.unusedVariables false
/-- THE ONE PURE STATEMENT of incunablelaw01_VarnumJoin. -/
def incunablelaw01_VarnumJoin.Pure : Prop := ∀ (l0 : List (List Int)), l0.length ≤ maxLen → l0.length + (l0.map List.length).sum ≤ 1048576 → (∀ r ∈ l0, ∀ x ∈ r, (Lit.int .u8 x).wf = true) → ∃ k, incunablelaw01_VarnumJoin.f k l0 = some true
theorem incunablelaw01_VarnumJoin.walk (P : incunablelaw01_VarnumJoin.Pure) (a0 : Option Addr) (cap0 : Nat) (l0 : List (List Int)) (w : World) (hr0 : (Kd.slice 5 (Kd.int .u8)).C w a0 l0.length l0) (hc0 : l0.length ≤ cap0) (h0 : l0.length ≤ maxLen) (h1 : l0.length + (l0.map List.length).sum ≤ 1048576) (h2 : (∀ r ∈ l0, ∀ x ∈ r, (Lit.int .u8 x).wf = true)) :
    Calls Try.prog 10 #[.slice a0 l0.length cap0] w fun e w' => e = .returned (.bool true) ∧ Below w.heap.size w w' := by
  obtain ⟨k, h⟩ := P l0 h0 h1 h2
  refine (incunablelaw01_VarnumJoin.calls k _ _ l0 true w hr0 hc0 h).mono ?_
  rintro e w' ⟨rfl, hd⟩
  exact ⟨rfl, by first | exact hd | exact hd.below⟩
end Go.Proofs.Ytnonhhblfmceaaa.X
