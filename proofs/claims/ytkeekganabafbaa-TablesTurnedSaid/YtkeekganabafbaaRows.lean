/-
  No cell of these rows narrows 'for every input' (looked for: loops, veiled, ifaces, maps, wideKeys, modest, calm, conditions, laid).
  DERIVED. THE GIVEN ROWS OF THIS SEAT. 6 by the template 'for every input the law returns true; each argument reads behind the call as it read before'; 0 by the template 'total and deterministic' (their statements: YtkeekganabafbaaTotals.lean).
  GIVEN WITH THE SEED: the statements are not yours to turn. If you find one false, say at which input.
  Laid BY PROGRAM, IN A SANDBOX (cutbox-rows.mjs): the forced cells as the released guide's own fill.sh prints them over the translation dc575857dd9c495d… (all of the seat's roots in one cut). By AI agents, Wed Nov 11 2026. No macro, syntax, notation, axiom, sorry.
-/
import Derived.Test.YtkeekganabafbaaChecked
import GoSem.Claim
import GoSem.ClaimJoined
import GoSem.ClaimMapViews
import Derived.JoinedTies
import Derived.KernelRfl
namespace Go.Proofs.Ytkeekganabafbaa
/- THE CELL 'sum', in the pinned program and in every row, IS THE sha256 OF THE DUMP (.gsa) THAT YtkeekganabafbaaProg.lean LOADS. Nothing in Lean hashes anything: it is a label: what it is worth is what the hold of that sum in a sandbox is worth. -/
noncomputable def Try.pinned : Pinned := { name := "ytkeekganabafbaa", sum := "dc575857dd9c495d50ffbe2befed84c2df44293c9549b22c6059e066bbccadc2", checked := Try.checked }
namespace Rows
def none {H : Type} : Left H := { results := [], args := [] }

/-- 'incunablelaw22.TablesSame': WHATEVER THE INPUT: true; the input reads as it did. -/
def tablesSameSpec : ChangeSpec := { name := "tablesSame", fn := fun _ => fun
  | [d1, d2] => { results := [.lit (.bool true)], args := [d1, d2] }
  | _ => none }
def tablesSameRow : OpenClaim := { program := "ytkeekganabafbaa", sum := "dc575857dd9c495d50ffbe2befed84c2df44293c9549b22c6059e066bbccadc2", func := "incunable/incunablelaw22.TablesSame", spec := "tablesSame", unfollowed := true, recurses := true, apart := false }
def TablesSameSaid : Prop := tablesSameRow.holds Try.pinned (OpenSpec.ofChange tablesSameSpec)

/-- ITS FALSE NEIGHBOUR: 'it returns false'. Refute it at one input. -/
def tablesSameWrong : ChangeSpec := { name := "tablesSame", fn := fun _ => fun
  | [d1, d2] => { results := [.lit (.bool false)], args := [d1, d2] }
  | _ => none }
def TablesSameWrongFalsely : Prop := tablesSameRow.holds Try.pinned (OpenSpec.ofChange tablesSameWrong)

/-- 'incunablelaw22.TablesKnown': WHATEVER THE INPUT: true; the input reads as it did. -/
def tablesKnownSpec : ChangeSpec := { name := "tablesKnown", fn := fun _ => fun
  | [] => { results := [.lit (.bool true)], args := [] }
  | _ => none }
def tablesKnownRow : OpenClaim := { program := "ytkeekganabafbaa", sum := "dc575857dd9c495d50ffbe2befed84c2df44293c9549b22c6059e066bbccadc2", func := "incunable/incunablelaw22.TablesKnown", spec := "tablesKnown", unfollowed := true, recurses := true, apart := false }
def TablesKnownSaid : Prop := tablesKnownRow.holds Try.pinned (OpenSpec.ofChange tablesKnownSpec)

/-- ITS FALSE NEIGHBOUR: 'it returns false'. Refute it at one input. -/
def tablesKnownWrong : ChangeSpec := { name := "tablesKnown", fn := fun _ => fun
  | [] => { results := [.lit (.bool false)], args := [] }
  | _ => none }
def TablesKnownWrongFalsely : Prop := tablesKnownRow.holds Try.pinned (OpenSpec.ofChange tablesKnownWrong)

/-- 'incunablelaw22.TablesReads': WHATEVER THE INPUT: true; the input reads as it did. -/
def tablesReadsSpec : ChangeSpec := { name := "tablesReads", fn := fun _ => fun
  | [d] => { results := [.lit (.bool true)], args := [d] }
  | _ => none }
def tablesReadsRow : OpenClaim := { program := "ytkeekganabafbaa", sum := "dc575857dd9c495d50ffbe2befed84c2df44293c9549b22c6059e066bbccadc2", func := "incunable/incunablelaw22.TablesReads", spec := "tablesReads", unfollowed := true, recurses := true, apart := false }
def TablesReadsSaid : Prop := tablesReadsRow.holds Try.pinned (OpenSpec.ofChange tablesReadsSpec)

/-- ITS FALSE NEIGHBOUR: 'it returns false'. Refute it at one input. -/
def tablesReadsWrong : ChangeSpec := { name := "tablesReads", fn := fun _ => fun
  | [d] => { results := [.lit (.bool false)], args := [d] }
  | _ => none }
def TablesReadsWrongFalsely : Prop := tablesReadsRow.holds Try.pinned (OpenSpec.ofChange tablesReadsWrong)

/-- 'incunablelaw22.TablesBack': WHATEVER THE INPUT: true; the input reads as it did. -/
def tablesBackSpec : ChangeSpec := { name := "tablesBack", fn := fun _ => fun
  | [d] => { results := [.lit (.bool true)], args := [d] }
  | _ => none }
def tablesBackRow : OpenClaim := { program := "ytkeekganabafbaa", sum := "dc575857dd9c495d50ffbe2befed84c2df44293c9549b22c6059e066bbccadc2", func := "incunable/incunablelaw22.TablesBack", spec := "tablesBack", unfollowed := true, recurses := true, apart := false }
def TablesBackSaid : Prop := tablesBackRow.holds Try.pinned (OpenSpec.ofChange tablesBackSpec)

/-- ITS FALSE NEIGHBOUR: 'it returns false'. Refute it at one input. -/
def tablesBackWrong : ChangeSpec := { name := "tablesBack", fn := fun _ => fun
  | [d] => { results := [.lit (.bool false)], args := [d] }
  | _ => none }
def TablesBackWrongFalsely : Prop := tablesBackRow.holds Try.pinned (OpenSpec.ofChange tablesBackWrong)

/-- 'incunablelaw22.TablesAgain': WHATEVER THE INPUT: true; the input reads as it did. -/
def tablesAgainSpec : ChangeSpec := { name := "tablesAgain", fn := fun _ => fun
  | [d] => { results := [.lit (.bool true)], args := [d] }
  | _ => none }
def tablesAgainRow : OpenClaim := { program := "ytkeekganabafbaa", sum := "dc575857dd9c495d50ffbe2befed84c2df44293c9549b22c6059e066bbccadc2", func := "incunable/incunablelaw22.TablesAgain", spec := "tablesAgain", unfollowed := true, recurses := true, apart := false }
def TablesAgainSaid : Prop := tablesAgainRow.holds Try.pinned (OpenSpec.ofChange tablesAgainSpec)

/-- ITS FALSE NEIGHBOUR: 'it returns false'. Refute it at one input. -/
def tablesAgainWrong : ChangeSpec := { name := "tablesAgain", fn := fun _ => fun
  | [d] => { results := [.lit (.bool false)], args := [d] }
  | _ => none }
def TablesAgainWrongFalsely : Prop := tablesAgainRow.holds Try.pinned (OpenSpec.ofChange tablesAgainWrong)

/-- 'incunablelaw22.TablesTurned': WHATEVER THE INPUT: true; the input reads as it did. -/
def tablesTurnedSpec : ChangeSpec := { name := "tablesTurned", fn := fun _ => fun
  | [d1, d2, d3] => { results := [.lit (.bool true)], args := [d1, d2, d3] }
  | _ => none }
def tablesTurnedRow : OpenClaim := { program := "ytkeekganabafbaa", sum := "dc575857dd9c495d50ffbe2befed84c2df44293c9549b22c6059e066bbccadc2", func := "incunable/incunablelaw22.TablesTurned", spec := "tablesTurned", unfollowed := true, recurses := true, apart := false }
def TablesTurnedSaid : Prop := tablesTurnedRow.holds Try.pinned (OpenSpec.ofChange tablesTurnedSpec)

/-- ITS FALSE NEIGHBOUR: 'it returns false'. Refute it at one input. -/
def tablesTurnedWrong : ChangeSpec := { name := "tablesTurned", fn := fun _ => fun
  | [d1, d2, d3] => { results := [.lit (.bool false)], args := [d1, d2, d3] }
  | _ => none }
def TablesTurnedWrongFalsely : Prop := tablesTurnedRow.holds Try.pinned (OpenSpec.ofChange tablesTurnedWrong)

/- THE SECOND FORM. 'bulk': how many values and letters a reading holds, each counted each time it is reached (what is shared counts as often as it is met; a slice's spare places count too). A statement '..UptoSaid' is the law's where the arguments, and the package variables that the reading takes, are together of bulk at most 1048576: NARROWER than '..Said'. Prove '..Said' where nothing that the law and all that it calls make is longer than what came in: it says more and counts as full. Else prove '..UptoSaid'. A law counts once. -/
mutual
def uptoBulk {H : Type} : DataW H → Nat
  | .lit (.string bytes) => bytes.length + 1
  | .lit _ => 1
  | .nil => 1
  | .ptr d => uptoBulk d + 1
  | .slice elems spare => uptoBulkAll elems + uptoBulkAll spare + 1
  | .agg parts => uptoBulkAll parts + 1
  | .iface _ d => uptoBulk d + 1
  | .map entries => uptoBulkEntries entries + 1
  | .held _ => 1
def uptoBulkAll {H : Type} : List (DataW H) → Nat
  | [] => 0
  | d :: r => uptoBulk d + uptoBulkAll r
def uptoBulkEntries {H : Type} : List (Lit × DataW H) → Nat
  | [] => 0
  | x :: r => uptoBulkEntry x + uptoBulkEntries r
def uptoBulkEntry {H : Type} : Lit × DataW H → Nat
  | (.string bytes, d) => bytes.length + uptoBulk d + 1
  | (_, d) => uptoBulk d + 1
 end
def uptoSmall : (H : Type) → List (DataW H) → Bool := fun _ ds => decide (uptoBulkAll ds ≤ 1048576)
def OpenSpec.upto (s : _root_.Go.ChangeSpec) : _root_.Go.OpenSpec := { _root_.Go.OpenSpec.ofChange s with cond := some uptoSmall }

/-- 'incunablelaw22.TablesSame', WHERE WHAT IT READS IS OF BULK AT MOST 1048576: true; the input reads as it did. -/
def tablesSameUptoRow : OpenClaim := { program := "ytkeekganabafbaa", sum := "dc575857dd9c495d50ffbe2befed84c2df44293c9549b22c6059e066bbccadc2", func := "incunable/incunablelaw22.TablesSame", spec := "tablesSame", unfollowed := true, recurses := true, apart := false, narrowed := true }
def TablesSameUptoSaid : Prop := tablesSameUptoRow.holds Try.pinned (OpenSpec.upto tablesSameSpec)

/-- 'incunablelaw22.TablesKnown', WHERE WHAT IT READS IS OF BULK AT MOST 1048576: true; the input reads as it did. -/
def tablesKnownUptoRow : OpenClaim := { program := "ytkeekganabafbaa", sum := "dc575857dd9c495d50ffbe2befed84c2df44293c9549b22c6059e066bbccadc2", func := "incunable/incunablelaw22.TablesKnown", spec := "tablesKnown", unfollowed := true, recurses := true, apart := false, narrowed := true }
def TablesKnownUptoSaid : Prop := tablesKnownUptoRow.holds Try.pinned (OpenSpec.upto tablesKnownSpec)

/-- 'incunablelaw22.TablesReads', WHERE WHAT IT READS IS OF BULK AT MOST 1048576: true; the input reads as it did. -/
def tablesReadsUptoRow : OpenClaim := { program := "ytkeekganabafbaa", sum := "dc575857dd9c495d50ffbe2befed84c2df44293c9549b22c6059e066bbccadc2", func := "incunable/incunablelaw22.TablesReads", spec := "tablesReads", unfollowed := true, recurses := true, apart := false, narrowed := true }
def TablesReadsUptoSaid : Prop := tablesReadsUptoRow.holds Try.pinned (OpenSpec.upto tablesReadsSpec)

/-- 'incunablelaw22.TablesBack', WHERE WHAT IT READS IS OF BULK AT MOST 1048576: true; the input reads as it did. -/
def tablesBackUptoRow : OpenClaim := { program := "ytkeekganabafbaa", sum := "dc575857dd9c495d50ffbe2befed84c2df44293c9549b22c6059e066bbccadc2", func := "incunable/incunablelaw22.TablesBack", spec := "tablesBack", unfollowed := true, recurses := true, apart := false, narrowed := true }
def TablesBackUptoSaid : Prop := tablesBackUptoRow.holds Try.pinned (OpenSpec.upto tablesBackSpec)

/-- 'incunablelaw22.TablesAgain', WHERE WHAT IT READS IS OF BULK AT MOST 1048576: true; the input reads as it did. -/
def tablesAgainUptoRow : OpenClaim := { program := "ytkeekganabafbaa", sum := "dc575857dd9c495d50ffbe2befed84c2df44293c9549b22c6059e066bbccadc2", func := "incunable/incunablelaw22.TablesAgain", spec := "tablesAgain", unfollowed := true, recurses := true, apart := false, narrowed := true }
def TablesAgainUptoSaid : Prop := tablesAgainUptoRow.holds Try.pinned (OpenSpec.upto tablesAgainSpec)

/-- 'incunablelaw22.TablesTurned', WHERE WHAT IT READS IS OF BULK AT MOST 1048576: true; the input reads as it did. -/
def tablesTurnedUptoRow : OpenClaim := { program := "ytkeekganabafbaa", sum := "dc575857dd9c495d50ffbe2befed84c2df44293c9549b22c6059e066bbccadc2", func := "incunable/incunablelaw22.TablesTurned", spec := "tablesTurned", unfollowed := true, recurses := true, apart := false, narrowed := true }
def TablesTurnedUptoSaid : Prop := tablesTurnedUptoRow.holds Try.pinned (OpenSpec.upto tablesTurnedSpec)

end Rows
end Go.Proofs.Ytkeekganabafbaa
