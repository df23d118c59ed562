/-
  No cell of these rows narrows 'for every input' (looked for: loops, veiled, ifaces, maps, wideKeys, modest, calm, conditions, laid).
  DERIVED. THE GIVEN ROWS OF THIS SEAT. 9 by the template 'for every input the law returns true; each argument reads behind the call as it read before'; 0 by the template 'total and deterministic' (their statements: YtnonhhblfmceaaaTotals.lean).
  GIVEN WITH THE SEED: the statements are not yours to turn. If you find one false, say at which input.
  Laid BY PROGRAM, IN A SANDBOX (cutbox-rows.mjs): the forced cells as the released guide's own fill.sh prints them over the translation b5cff1c21edc5867… (all of the seat's roots in one cut). By AI agents, Wed Nov 11 2026. No macro, syntax, notation, axiom, sorry.
-/
import Derived.Test.YtnonhhblfmceaaaChecked
import GoSem.Claim
import GoSem.ClaimJoined
import GoSem.ClaimMapViews
import Derived.JoinedTies
import Derived.KernelRfl
namespace Go.Proofs.Ytnonhhblfmceaaa
/- THE CELL 'sum', in the pinned program and in every row, IS THE sha256 OF THE DUMP (.gsa) THAT YtnonhhblfmceaaaProg.lean LOADS. Nothing in Lean hashes anything: it is a label: what it is worth is what the hold of that sum in a sandbox is worth. -/
noncomputable def Try.pinned : Pinned := { name := "ytnonhhblfmceaaa", sum := "b5cff1c21edc58672558038851ad0723a50ad342414fc1a075ad817fc238adbf", checked := Try.checked }
namespace Rows
def none {H : Type} : Left H := { results := [], args := [] }

/-- 'incunablelaw01.VarnumNum': WHATEVER THE INPUT: true; the input reads as it did. -/
def varnumNumSpec : ChangeSpec := { name := "varnumNum", fn := fun _ => fun
  | [d1, d2] => { results := [.lit (.bool true)], args := [d1, d2] }
  | _ => none }
def varnumNumRow : OpenClaim := { program := "ytnonhhblfmceaaa", sum := "b5cff1c21edc58672558038851ad0723a50ad342414fc1a075ad817fc238adbf", func := "incunable/incunablelaw01.VarnumNum", spec := "varnumNum", apart := false }
def VarnumNumSaid : Prop := varnumNumRow.holds Try.pinned (OpenSpec.ofChange varnumNumSpec)

/-- ITS FALSE NEIGHBOUR: 'it returns false'. Refute it at one input. -/
def varnumNumWrong : ChangeSpec := { name := "varnumNum", fn := fun _ => fun
  | [d1, d2] => { results := [.lit (.bool false)], args := [d1, d2] }
  | _ => none }
def VarnumNumWrongFalsely : Prop := varnumNumRow.holds Try.pinned (OpenSpec.ofChange varnumNumWrong)

/-- 'incunablelaw01.VarnumText': WHATEVER THE INPUT: true; the input reads as it did. -/
def varnumTextSpec : ChangeSpec := { name := "varnumText", fn := fun _ => fun
  | [d1, d2] => { results := [.lit (.bool true)], args := [d1, d2] }
  | _ => none }
def varnumTextRow : OpenClaim := { program := "ytnonhhblfmceaaa", sum := "b5cff1c21edc58672558038851ad0723a50ad342414fc1a075ad817fc238adbf", func := "incunable/incunablelaw01.VarnumText", spec := "varnumText", apart := false }
def VarnumTextSaid : Prop := varnumTextRow.holds Try.pinned (OpenSpec.ofChange varnumTextSpec)

/-- ITS FALSE NEIGHBOUR: 'it returns false'. Refute it at one input. -/
def varnumTextWrong : ChangeSpec := { name := "varnumText", fn := fun _ => fun
  | [d1, d2] => { results := [.lit (.bool false)], args := [d1, d2] }
  | _ => none }
def VarnumTextWrongFalsely : Prop := varnumTextRow.holds Try.pinned (OpenSpec.ofChange varnumTextWrong)

/-- 'incunablelaw01.VarnumBack': WHATEVER THE INPUT: true; the input reads as it did. -/
def varnumBackSpec : ChangeSpec := { name := "varnumBack", fn := fun _ => fun
  | [d1, d2, d3] => { results := [.lit (.bool true)], args := [d1, d2, d3] }
  | _ => none }
def varnumBackRow : OpenClaim := { program := "ytnonhhblfmceaaa", sum := "b5cff1c21edc58672558038851ad0723a50ad342414fc1a075ad817fc238adbf", func := "incunable/incunablelaw01.VarnumBack", spec := "varnumBack", apart := false }
def VarnumBackSaid : Prop := varnumBackRow.holds Try.pinned (OpenSpec.ofChange varnumBackSpec)

/-- ITS FALSE NEIGHBOUR: 'it returns false'. Refute it at one input. -/
def varnumBackWrong : ChangeSpec := { name := "varnumBack", fn := fun _ => fun
  | [d1, d2, d3] => { results := [.lit (.bool false)], args := [d1, d2, d3] }
  | _ => none }
def VarnumBackWrongFalsely : Prop := varnumBackRow.holds Try.pinned (OpenSpec.ofChange varnumBackWrong)

/-- 'incunablelaw01.VarnumAgain': WHATEVER THE INPUT: true; the input reads as it did. -/
def varnumAgainSpec : ChangeSpec := { name := "varnumAgain", fn := fun _ => fun
  | [d] => { results := [.lit (.bool true)], args := [d] }
  | _ => none }
def varnumAgainRow : OpenClaim := { program := "ytnonhhblfmceaaa", sum := "b5cff1c21edc58672558038851ad0723a50ad342414fc1a075ad817fc238adbf", func := "incunable/incunablelaw01.VarnumAgain", spec := "varnumAgain", apart := false }
def VarnumAgainSaid : Prop := varnumAgainRow.holds Try.pinned (OpenSpec.ofChange varnumAgainSpec)

/-- ITS FALSE NEIGHBOUR: 'it returns false'. Refute it at one input. -/
def varnumAgainWrong : ChangeSpec := { name := "varnumAgain", fn := fun _ => fun
  | [d] => { results := [.lit (.bool false)], args := [d] }
  | _ => none }
def VarnumAgainWrongFalsely : Prop := varnumAgainRow.holds Try.pinned (OpenSpec.ofChange varnumAgainWrong)

/-- 'incunablelaw01.VarnumCut': WHATEVER THE INPUT: true; the input reads as it did. -/
def varnumCutSpec : ChangeSpec := { name := "varnumCut", fn := fun _ => fun
  | [d1, d2, d3] => { results := [.lit (.bool true)], args := [d1, d2, d3] }
  | _ => none }
def varnumCutRow : OpenClaim := { program := "ytnonhhblfmceaaa", sum := "b5cff1c21edc58672558038851ad0723a50ad342414fc1a075ad817fc238adbf", func := "incunable/incunablelaw01.VarnumCut", spec := "varnumCut", apart := false }
def VarnumCutSaid : Prop := varnumCutRow.holds Try.pinned (OpenSpec.ofChange varnumCutSpec)

/-- ITS FALSE NEIGHBOUR: 'it returns false'. Refute it at one input. -/
def varnumCutWrong : ChangeSpec := { name := "varnumCut", fn := fun _ => fun
  | [d1, d2, d3] => { results := [.lit (.bool false)], args := [d1, d2, d3] }
  | _ => none }
def VarnumCutWrongFalsely : Prop := varnumCutRow.holds Try.pinned (OpenSpec.ofChange varnumCutWrong)

/-- 'incunablelaw01.VarnumSizes': WHATEVER THE INPUT: true; the input reads as it did. -/
def varnumSizesSpec : ChangeSpec := { name := "varnumSizes", fn := fun _ => fun
  | [d1, d2] => { results := [.lit (.bool true)], args := [d1, d2] }
  | _ => none }
def varnumSizesRow : OpenClaim := { program := "ytnonhhblfmceaaa", sum := "b5cff1c21edc58672558038851ad0723a50ad342414fc1a075ad817fc238adbf", func := "incunable/incunablelaw01.VarnumSizes", spec := "varnumSizes", apart := false }
def VarnumSizesSaid : Prop := varnumSizesRow.holds Try.pinned (OpenSpec.ofChange varnumSizesSpec)

/-- ITS FALSE NEIGHBOUR: 'it returns false'. Refute it at one input. -/
def varnumSizesWrong : ChangeSpec := { name := "varnumSizes", fn := fun _ => fun
  | [d1, d2] => { results := [.lit (.bool false)], args := [d1, d2] }
  | _ => none }
def VarnumSizesWrongFalsely : Prop := varnumSizesRow.holds Try.pinned (OpenSpec.ofChange varnumSizesWrong)

/-- 'incunablelaw01.VarnumApart': WHATEVER THE INPUT: true; the input reads as it did. -/
def varnumApartSpec : ChangeSpec := { name := "varnumApart", fn := fun _ => fun
  | [d1, d2, d3] => { results := [.lit (.bool true)], args := [d1, d2, d3] }
  | _ => none }
def varnumApartRow : OpenClaim := { program := "ytnonhhblfmceaaa", sum := "b5cff1c21edc58672558038851ad0723a50ad342414fc1a075ad817fc238adbf", func := "incunable/incunablelaw01.VarnumApart", spec := "varnumApart", apart := false }
def VarnumApartSaid : Prop := varnumApartRow.holds Try.pinned (OpenSpec.ofChange varnumApartSpec)

/-- ITS FALSE NEIGHBOUR: 'it returns false'. Refute it at one input. -/
def varnumApartWrong : ChangeSpec := { name := "varnumApart", fn := fun _ => fun
  | [d1, d2, d3] => { results := [.lit (.bool false)], args := [d1, d2, d3] }
  | _ => none }
def VarnumApartWrongFalsely : Prop := varnumApartRow.holds Try.pinned (OpenSpec.ofChange varnumApartWrong)

/-- 'incunablelaw01.VarnumJoin': WHATEVER THE INPUT: true; the input reads as it did. -/
def varnumJoinSpec : ChangeSpec := { name := "varnumJoin", fn := fun _ => fun
  | [d] => { results := [.lit (.bool true)], args := [d] }
  | _ => none }
def varnumJoinRow : OpenClaim := { program := "ytnonhhblfmceaaa", sum := "b5cff1c21edc58672558038851ad0723a50ad342414fc1a075ad817fc238adbf", func := "incunable/incunablelaw01.VarnumJoin", spec := "varnumJoin", apart := false }
def VarnumJoinSaid : Prop := varnumJoinRow.holds Try.pinned (OpenSpec.ofChange varnumJoinSpec)

/-- ITS FALSE NEIGHBOUR: 'it returns false'. Refute it at one input. -/
def varnumJoinWrong : ChangeSpec := { name := "varnumJoin", fn := fun _ => fun
  | [d] => { results := [.lit (.bool false)], args := [d] }
  | _ => none }
def VarnumJoinWrongFalsely : Prop := varnumJoinRow.holds Try.pinned (OpenSpec.ofChange varnumJoinWrong)

/-- 'incunablelaw01.VarnumKnown': WHATEVER THE INPUT: true; the input reads as it did. -/
def varnumKnownSpec : ChangeSpec := { name := "varnumKnown", fn := fun _ => fun
  | [] => { results := [.lit (.bool true)], args := [] }
  | _ => none }
def varnumKnownRow : OpenClaim := { program := "ytnonhhblfmceaaa", sum := "b5cff1c21edc58672558038851ad0723a50ad342414fc1a075ad817fc238adbf", func := "incunable/incunablelaw01.VarnumKnown", spec := "varnumKnown", apart := false }
def VarnumKnownSaid : Prop := varnumKnownRow.holds Try.pinned (OpenSpec.ofChange varnumKnownSpec)

/-- ITS FALSE NEIGHBOUR: 'it returns false'. Refute it at one input. -/
def varnumKnownWrong : ChangeSpec := { name := "varnumKnown", fn := fun _ => fun
  | [] => { results := [.lit (.bool false)], args := [] }
  | _ => none }
def VarnumKnownWrongFalsely : Prop := varnumKnownRow.holds Try.pinned (OpenSpec.ofChange varnumKnownWrong)

/- THE SECOND FORM. 'bulk': how many values and letters a reading holds, each counted each time it is reached (what is shared counts as often as it is met; a slice's spare places count too). A statement '..UptoSaid' is the law's where the arguments, and the package variables that the reading takes, are together of bulk at most 1048576: NARROWER than '..Said'. Prove '..Said' where nothing that the law and all that it calls make is longer than what came in: it says more and counts as full. Else prove '..UptoSaid'. A law counts once. -/
mutual
def uptoBulk {H : Type} : DataW H → Nat
  | .lit (.string bytes) => bytes.length + 1
  | .lit _ => 1
  | .nil => 1
  | .ptr d => uptoBulk d + 1
  | .slice elems spare => uptoBulkAll elems + uptoBulkAll spare + 1
  | .agg parts => uptoBulkAll parts + 1
  | .iface _ d => uptoBulk d + 1
  | .map entries => uptoBulkEntries entries + 1
  | .held _ => 1
def uptoBulkAll {H : Type} : List (DataW H) → Nat
  | [] => 0
  | d :: r => uptoBulk d + uptoBulkAll r
def uptoBulkEntries {H : Type} : List (Lit × DataW H) → Nat
  | [] => 0
  | x :: r => uptoBulkEntry x + uptoBulkEntries r
def uptoBulkEntry {H : Type} : Lit × DataW H → Nat
  | (.string bytes, d) => bytes.length + uptoBulk d + 1
  | (_, d) => uptoBulk d + 1
 end
def uptoSmall : (H : Type) → List (DataW H) → Bool := fun _ ds => decide (uptoBulkAll ds ≤ 1048576)
def OpenSpec.upto (s : _root_.Go.ChangeSpec) : _root_.Go.OpenSpec := { _root_.Go.OpenSpec.ofChange s with cond := some uptoSmall }

/-- 'incunablelaw01.VarnumNum', WHERE WHAT IT READS IS OF BULK AT MOST 1048576: true; the input reads as it did. -/
def varnumNumUptoRow : OpenClaim := { program := "ytnonhhblfmceaaa", sum := "b5cff1c21edc58672558038851ad0723a50ad342414fc1a075ad817fc238adbf", func := "incunable/incunablelaw01.VarnumNum", spec := "varnumNum", apart := false, narrowed := true }
def VarnumNumUptoSaid : Prop := varnumNumUptoRow.holds Try.pinned (OpenSpec.upto varnumNumSpec)

/-- 'incunablelaw01.VarnumText', WHERE WHAT IT READS IS OF BULK AT MOST 1048576: true; the input reads as it did. -/
def varnumTextUptoRow : OpenClaim := { program := "ytnonhhblfmceaaa", sum := "b5cff1c21edc58672558038851ad0723a50ad342414fc1a075ad817fc238adbf", func := "incunable/incunablelaw01.VarnumText", spec := "varnumText", apart := false, narrowed := true }
def VarnumTextUptoSaid : Prop := varnumTextUptoRow.holds Try.pinned (OpenSpec.upto varnumTextSpec)

/-- 'incunablelaw01.VarnumBack', WHERE WHAT IT READS IS OF BULK AT MOST 1048576: true; the input reads as it did. -/
def varnumBackUptoRow : OpenClaim := { program := "ytnonhhblfmceaaa", sum := "b5cff1c21edc58672558038851ad0723a50ad342414fc1a075ad817fc238adbf", func := "incunable/incunablelaw01.VarnumBack", spec := "varnumBack", apart := false, narrowed := true }
def VarnumBackUptoSaid : Prop := varnumBackUptoRow.holds Try.pinned (OpenSpec.upto varnumBackSpec)

/-- 'incunablelaw01.VarnumAgain', WHERE WHAT IT READS IS OF BULK AT MOST 1048576: true; the input reads as it did. -/
def varnumAgainUptoRow : OpenClaim := { program := "ytnonhhblfmceaaa", sum := "b5cff1c21edc58672558038851ad0723a50ad342414fc1a075ad817fc238adbf", func := "incunable/incunablelaw01.VarnumAgain", spec := "varnumAgain", apart := false, narrowed := true }
def VarnumAgainUptoSaid : Prop := varnumAgainUptoRow.holds Try.pinned (OpenSpec.upto varnumAgainSpec)

/-- 'incunablelaw01.VarnumCut', WHERE WHAT IT READS IS OF BULK AT MOST 1048576: true; the input reads as it did. -/
def varnumCutUptoRow : OpenClaim := { program := "ytnonhhblfmceaaa", sum := "b5cff1c21edc58672558038851ad0723a50ad342414fc1a075ad817fc238adbf", func := "incunable/incunablelaw01.VarnumCut", spec := "varnumCut", apart := false, narrowed := true }
def VarnumCutUptoSaid : Prop := varnumCutUptoRow.holds Try.pinned (OpenSpec.upto varnumCutSpec)

/-- 'incunablelaw01.VarnumSizes', WHERE WHAT IT READS IS OF BULK AT MOST 1048576: true; the input reads as it did. -/
def varnumSizesUptoRow : OpenClaim := { program := "ytnonhhblfmceaaa", sum := "b5cff1c21edc58672558038851ad0723a50ad342414fc1a075ad817fc238adbf", func := "incunable/incunablelaw01.VarnumSizes", spec := "varnumSizes", apart := false, narrowed := true }
def VarnumSizesUptoSaid : Prop := varnumSizesUptoRow.holds Try.pinned (OpenSpec.upto varnumSizesSpec)

/-- 'incunablelaw01.VarnumApart', WHERE WHAT IT READS IS OF BULK AT MOST 1048576: true; the input reads as it did. -/
def varnumApartUptoRow : OpenClaim := { program := "ytnonhhblfmceaaa", sum := "b5cff1c21edc58672558038851ad0723a50ad342414fc1a075ad817fc238adbf", func := "incunable/incunablelaw01.VarnumApart", spec := "varnumApart", apart := false, narrowed := true }
def VarnumApartUptoSaid : Prop := varnumApartUptoRow.holds Try.pinned (OpenSpec.upto varnumApartSpec)

/-- 'incunablelaw01.VarnumJoin', WHERE WHAT IT READS IS OF BULK AT MOST 1048576: true; the input reads as it did. -/
def varnumJoinUptoRow : OpenClaim := { program := "ytnonhhblfmceaaa", sum := "b5cff1c21edc58672558038851ad0723a50ad342414fc1a075ad817fc238adbf", func := "incunable/incunablelaw01.VarnumJoin", spec := "varnumJoin", apart := false, narrowed := true }
def VarnumJoinUptoSaid : Prop := varnumJoinUptoRow.holds Try.pinned (OpenSpec.upto varnumJoinSpec)

/-- 'incunablelaw01.VarnumKnown', WHERE WHAT IT READS IS OF BULK AT MOST 1048576: true; the input reads as it did. -/
def varnumKnownUptoRow : OpenClaim := { program := "ytnonhhblfmceaaa", sum := "b5cff1c21edc58672558038851ad0723a50ad342414fc1a075ad817fc238adbf", func := "incunable/incunablelaw01.VarnumKnown", spec := "varnumKnown", apart := false, narrowed := true }
def VarnumKnownUptoSaid : Prop := varnumKnownUptoRow.holds Try.pinned (OpenSpec.upto varnumKnownSpec)

end Rows
end Go.Proofs.Ytnonhhblfmceaaa
