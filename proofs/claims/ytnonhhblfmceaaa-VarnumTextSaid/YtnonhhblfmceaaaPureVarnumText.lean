/- VarnumText: Text and TakeText return what the document says, of all bytes and all numbers; memory likewise. -/
import Derived.Test.YtnonhhblfmceaaaXx17
import Derived.Test.YtnonhhblfmceaaaXVarTexts
namespace Go.Proofs.Ytnonhhblfmceaaa.Pure
set_option linter.unusedVariables false
open Go.RowKit Go.Proofs.Ytnonhhblfmceaaa.X Go.Proofs.YtnonhhblfmceaaaW.PrintWords Go.Proofs.YtnonhhblfmceaaaW.PrintLast Go.Proofs.YtnonhhblfmceaaaW.PrintMore

theorem textI_length (t : List Int) (most : Int) (h : t.length ≤ 9007199254740991) : (textI t most).1.length ≤ 8 + t.length := by
  have := enc_le8 t.length h
  unfold textI
  split
  · simp
  · split
    · simp
    · rw [List.length_append]; omega
theorem takeTextI_length (l : List Int) (most : Int) : (takeTextI l most).1.length ≤ l.length ∧ (takeTextI l most).2.1.length ≤ l.length := by
  have := (takeI_range l).2.2
  unfold takeTextI
  split
  · simp
  · split
    · split
      · simp
      · split
        · simp
        · dsimp only
          rw [List.length_take, List.length_drop]; omega
    · simp
theorem VarnumText : incunablelaw01_VarnumText.Pure := by
  intro l most hm hl hw ha
  have hB := BI_wf hw
  refine Ev.rounds ?_
  unfold incunablelaw01_VarnumText.f
  refine ev_some (f := fun k t => _) (copy_some l (by omega)) ?_
  refine ev_some (f := fun k t => _) (rfl : some ([7, 7] : List Int) = _) ?_
  refine ev_pos (by simp; omega) ?_
  refine ev_some (f := fun k t => _) rfl ?_
  refine ev_pos (by omega) (ev_pos (by simp; omega) ?_)
  have e0 : (l ++ [7, 7]).take ((l.length : Int) : Int).toNat = l := by simp
  rw [e0]
  have t1 := textI_length l most (by omega)
  obtain ⟨t2, t3⟩ := takeTextI_length l most
  refine Ev.bind (f := fun k t => _) (text_ev l most (by omega)) ?_
  refine Ev.bind (f := fun k t => _) (rtext_ev l most (by omega)) ?_
  refine Ev.bind (f := fun k t => _) (takeText_ev l most hB (by omega)) ?_
  refine Ev.bind (f := fun k t => _) (rtakeText_ev l most hB (by omega)) ?_
  refine Ev.bind (f := fun k t => _) (same_ev _ _ rfl (by omega)) (ev_pos rfl (ev_pos rfl ?_))
  refine Ev.bind (f := fun k t => _) (same_ev _ _ rfl (by omega)) (ev_pos rfl ?_)
  refine Ev.bind (f := fun k t => _) (same_ev _ _ rfl (by omega)) (ev_pos rfl ?_)
  refine Ev.step (f := fun k => _) (fun k => by simp only [incunablelaw01_VarnumText.j0]; rfl) ?_
  refine ev_neg (by simp) ?_
  obtain ⟨r1, h1⟩ := spoil_ev (textI l most).1 (by omega)
  obtain ⟨r2, h2⟩ := spoil_ev (takeTextI l most).1 (by omega)
  obtain ⟨r3, h3⟩ := spoil_ev (takeTextI l most).2.1 (by omega)
  refine Ev.bind (f := fun k t => _) h1 ?_
  refine Ev.bind (f := fun k t => _) h2 ?_
  refine Ev.bind (f := fun k t => _) h3 ?_
  refine ev_some (f := fun k t => _) (copy_some l (by omega)) ?_
  refine ev_some (f := fun k t => _) (rfl : some ([7, 7] : List Int) = _) ?_
  refine ev_pos (by simp; omega) ?_
  refine Ev.bind (f := fun k t => _) (same_ev _ _ rfl (by simp; omega)) (ev_pos rfl ?_)
  exact Ev.bind (f := fun _ t => some t) works_ev (Ev.now _)
end Go.Proofs.Ytnonhhblfmceaaa.Pure
