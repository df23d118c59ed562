/- VarnumNum: Num and TakeNum return what the document says, of all numbers and all bytes that a machine can hold; what is handed in stays, what is answered is memory of its own. -/
import Derived.Test.YtnonhhblfmceaaaXx14
import Derived.Test.YtnonhhblfmceaaaXVarMore
namespace Go.Proofs.Ytnonhhblfmceaaa.Pure
set_option linter.unusedVariables false
open Go.RowKit Go.Proofs.Ytnonhhblfmceaaa.X Go.Proofs.YtnonhhblfmceaaaW.PrintWords Go.Proofs.YtnonhhblfmceaaaW.PrintLast Go.Proofs.YtnonhhblfmceaaaW.PrintMore

theorem numI_length (a : Int) : (numI a).1.length ≤ 8 := by
  unfold numI
  split
  · exact enc_le8 _ (by omega)
  · simp
theorem VarnumNum : incunablelaw01_VarnumNum.Pure := by
  intro a l ha hm hl hw
  have hB := BI_wf hw
  refine Ev.rounds ?_
  unfold incunablelaw01_VarnumNum.f
  have h8 := numI_length a
  obtain ⟨_, _, hr⟩ := takeI_range l
  refine Ev.bind (f := fun k t => _) (num_ev a) ?_
  refine Ev.bind (f := fun k t => _) (rnum_ev a) ?_
  refine ev_some (f := fun k t => _) (copy_some l (by omega)) ?_
  refine Ev.bind (f := fun k t => _) (taken_ev l hB (by omega)) ?_
  refine Ev.bind (f := fun k t => _) (rtaken_ev l hB (by omega)) ?_
  refine Ev.bind (f := fun k t => _) (same_ev _ _ rfl (by omega)) (ev_pos rfl (ev_pos rfl (ev_pos rfl ?_)))
  refine Ev.bind (f := fun k t => _) (same_ev _ _ rfl (by omega)) (ev_pos rfl ?_)
  refine Ev.step (f := fun k => _) (fun k => by simp only [incunablelaw01_VarnumNum.j0]; rfl) ?_
  refine ev_neg (by simp) ?_
  obtain ⟨r1, h1⟩ := spoil_ev (numI a).1 (by omega)
  obtain ⟨r2, h2⟩ := spoil_ev (takeI l).2.1 (by omega)
  refine Ev.bind (f := fun k t => _) h1 ?_
  refine Ev.bind (f := fun k t => _) h2 ?_
  refine Ev.bind (f := fun k t => _) (num_ev a) ?_
  refine Ev.bind (f := fun k t => _) (same_ev _ _ rfl (by omega)) (ev_pos rfl ?_)
  refine Ev.bind (f := fun k t => _) (same_ev _ _ rfl (by omega)) (ev_pos rfl ?_)
  exact Ev.bind (f := fun _ t => some t) works_ev (Ev.now _)
end Go.Proofs.Ytnonhhblfmceaaa.Pure
