/- CrcAnswers: the program's sums are the document's, for every sum and all bytes that a machine can hold; what is handed in stays. -/
import Derived.Test.YtimpejljlnnlaaaXx7
import Derived.Test.YtimpejljlnnlaaaXCrcRef
namespace Go.Proofs.Ytimpejljlnnlaaa.Pure
set_option linter.unusedVariables false
open Go.RowKit Go.Proofs.Ytimpejljlnnlaaa.X Go.Proofs.YtimpejljlnnlaaaW.PrintWords Go.Proofs.YtimpejljlnnlaaaW.PrintLast

theorem CrcAnswers : incunablelaw02_CrcAnswers.Pure := by
  intro a l ha hm hl hb
  have hB := BI_wf hb
  obtain ⟨a0, a1⟩ := wf_u32 ha
  have hn : l.length ≤ 9223372036854775800 := by omega
  refine Ev.rounds ?_
  unfold incunablelaw02_CrcAnswers.f
  refine ev_some (f := fun k t => _) (copy_some l (by omega)) ?_
  refine Ev.bind (f := fun k t => _) (of_ev l hB hn) ?_
  refine Ev.bind (f := fun k t => _) (rof_ev l hB hn) ?_
  refine ev_pos rfl ?_
  refine Ev.bind (f := fun k t => _) (on_ev a l a0 a1 hB hn) ?_
  refine Ev.bind (f := fun k t => _) (ron_ev a l a0 a1 hB hn) ?_
  refine ev_pos rfl ?_
  refine Ev.bind (f := fun k t => _) (eq_ev l l hn) ?_
  refine ev_pos (by simp) ?_
  exact Ev.bind (f := fun _ t => some t) works_ev (Ev.now _)
end Go.Proofs.Ytimpejljlnnlaaa.Pure
