-- Laid by xprint.py, a program of this session over the kit's print; checked by Lean alone.
import Derived.Test.YtimpejljlnnlaaaProg
import Derived.Below
import Derived.Deep.Draws
import Derived.Deep.AppendLies
import Derived.Maps.AppendAt
import Derived.OwnWalk
import Derived.Laws.BytesArg
import Derived.Laws.MakeOwn
import Derived.Laws.OwnMore
import Derived.Deep.OwnRows
import Derived.Tactics
import Derived.Lib.ConvBytes
import Derived.Laws.Slices
import Derived.WalkKit
import Derived.KernelRfl
import Derived.RowKit3
import Derived.Deep.LoopGhost
import Derived.Deep.QuietTactic
import Derived.BigQuiet
import Derived.WideLaws
import Derived.Deep.DeepCutAuto
import Derived.Deep.CutBlock
import Derived.Deep.RegionHeld3
import Derived.Laws.Rows
import Derived.Lib.AppendStr
import Derived.ArgAppend
import Derived.Laws.IdiomCopy
import Derived.OrdersHeld
import Derived.Laws.BitsLemmas
import Derived.RowKit
import Derived.Test.YtimpejljlnnlaaaWWords
import Derived.Test.YtimpejljlnnlaaaWLast
import Derived.Test.YtimpejljlnnlaaaWTab
import Derived.Test.YtimpejljlnnlaaaWFour
import Derived.Test.YtimpejljlnnlaaaWQPut
import Derived.Test.YtimpejljlnnlaaaWApart
import Derived.Test.YtimpejljlnnlaaaWArr
import Derived.Test.YtimpejljlnnlaaaWZeros
import Derived.Test.YtimpejljlnnlaaaWFoot
import Derived.Test.YtimpejljlnnlaaaWKept
import Derived.Test.YtimpejljlnnlaaaWShare
import Derived.Test.YtimpejljlnnlaaaWN
import Derived.Test.YtimpejljlnnlaaaWFootNe
import Derived.Test.YtimpejljlnnlaaaWAt
import Derived.Test.YtimpejljlnnlaaaWEqStruct
import Derived.Test.YtimpejljlnnlaaaWRepsOne
import Derived.Test.YtimpejljlnnlaaaWInv
import Derived.Test.YtimpejljlnnlaaaWInvWords
import Derived.Test.YtimpejljlnnlaaaWGuard
import Derived.Test.YtimpejljlnnlaaaWNEv
import Derived.Test.YtimpejljlnnlaaaWMore
import Derived.Test.YtimpejljlnnlaaaXLit
namespace Go.Proofs.Ytimpejljlnnlaaa.X
open Go.RowKit Go.Proofs.YtimpejljlnnlaaaW.PrintWords Go.Proofs.YtimpejljlnnlaaaW.PrintLast Go.Proofs.YtimpejljlnnlaaaW.PrintMore
attribute [local go_sem] max2_int min2_int max_two min_two max_three min_three max_four min_four   -- for this text's walks alone
set_option linter.unusedVariables false
set_option linter.unusedSimpArgs false



def errW : Option Int → Value
  | none => .nilIface
  | some c => .iface 0 (.int .i64 c)
theorem errW_none : errW none = .nilIface := rfl
theorem errW_some (c : Int) : errW (some c) = .iface 0 (.int .i64 c) := rfl

theorem info5 : (Try.prog.info? 5).map (fun i => (i.zero, i.size, i.bytes)) = some (some (.int .u8 0), 1, 1) := by kernel_rfl
-- the values' own types

end Go.Proofs.Ytimpejljlnnlaaa.X
