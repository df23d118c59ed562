/- VarnumAgain: what can be read is written so. -/
import Derived.Test.YtnonhhblfmceaaaXx20
import Derived.Test.YtnonhhblfmceaaaXVarTexts
namespace Go.Proofs.Ytnonhhblfmceaaa.Pure
set_option linter.unusedVariables false
open Go.RowKit Go.Proofs.Ytnonhhblfmceaaa.X Go.Proofs.YtnonhhblfmceaaaW.PrintWords Go.Proofs.YtnonhhblfmceaaaW.PrintLast Go.Proofs.YtnonhhblfmceaaaW.PrintMore

theorem VarnumAgain : incunablelaw01_VarnumAgain.Pure := by
  intro l hm hl hw
  have hB := BI_wf hw
  refine Ev.rounds ?_
  unfold incunablelaw01_VarnumAgain.f
  refine Ev.bind (f := fun k t => _) works_ev (ev_pos rfl ?_)
  refine Ev.bind (f := fun k t => _) (taken_ev l hB (by omega)) ?_
  rcases tk_spec l with ⟨n, s, h1, h2, h3, h4, _⟩ | h1 | h1
  · rw [takeI_ok l n s h1]
    have e0 := enc_tk l hB n s h1
    have e1 : enc n ++ l.drop s = l := by rw [e0, List.take_append_drop]
    have e2 : (enc n).length + (l.drop s).length = l.length := by rw [← List.length_append, e1]
    refine ev_pos rfl ?_
    refine Ev.bind (f := fun k t => _) (num_ev _) ?_
    rw [numI_ok n h2]
    refine ev_pos rfl ?_
    dsimp only
    rw [e1]
    refine ev_pos (by omega) ?_
    refine Ev.bind (f := fun k t => _) (same_ev _ _ rfl (by omega)) ?_
    refine Ev.step (f := fun k => _) (fun k => by simp only [incunablelaw01_VarnumAgain.j0]; rfl) ?_
    refine ev_neg (by simp) ?_
    refine Ev.bind (f := fun k t => _) (takeText_ev l _ hB (by omega)) ?_
    rw [takeTextI_of l _ n s h1 (by omega)]
    by_cases h5 : (n : Int) > 1073741824
    · rw [if_pos h5]
      refine ev_neg (by decide) (ev_neg (by decide) (ev_pos rfl ?_))
      exact ev_eq (decide_eq_true h5) (Ev.now _)
    · rw [if_neg h5]
      by_cases h6 : (n : Int) > ((l.drop s).length : Int)
      · rw [if_pos h6]
        exact ev_neg (by decide) (ev_pos rfl (ev_pos h6 (Ev.now _)))
      · rw [if_neg h6]
        have e3 : ((l.drop s).take n).length = n := by rw [List.length_take]; omega
        refine ev_pos rfl ?_
        dsimp only
        refine Ev.bind (f := fun k t => _) (text_ev _ _ (by omega)) ?_
        rw [textI_ok _ _ (by omega), e3]
        refine ev_pos rfl (ev_pos rfl ?_)
        dsimp only
        have e4 : enc n ++ (l.drop s).take n ++ (l.drop s).drop n = l := by rw [List.append_assoc, List.take_append_drop, e1]
        refine ev_pos (by rw [← List.length_append, e4]; omega) ?_
        rw [e4]
        exact Ev.bind (f := fun _ t => some t) (same_ev _ _ rfl (by omega)) (Ev.now _)
  · rw [takeI_err l 3 h1 (by decide)]
    exact ev_neg (by decide) (ev_pos rfl (ev_pos rfl (ev_pos rfl (Ev.now _))))
  · rw [takeI_err l 4 h1 (by decide)]
    exact ev_neg (by decide) (ev_pos rfl (ev_pos rfl (ev_neg (by decide) (Ev.now _))))
end Go.Proofs.Ytnonhhblfmceaaa.Pure
