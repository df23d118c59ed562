/- VarnumCut: what is cut is told. -/
import Derived.Test.YtnonhhblfmceaaaXx21
import Derived.Test.YtnonhhblfmceaaaXVarTexts
namespace Go.Proofs.Ytnonhhblfmceaaa.Pure
set_option linter.unusedVariables false
open Go.RowKit Go.Proofs.Ytnonhhblfmceaaa.X Go.Proofs.YtnonhhblfmceaaaW.PrintWords Go.Proofs.YtnonhhblfmceaaaW.PrintLast Go.Proofs.YtnonhhblfmceaaaW.PrintMore

theorem VarnumCut : incunablelaw01_VarnumCut.Pure := by
  intro a l at_ ha hm hl hw hat
  have hB := BI_wf hw
  have ha := wf_i64 ha
  have hat := wf_i64 hat
  refine Ev.rounds ?_
  unfold incunablelaw01_VarnumCut.f
  refine Ev.bind (f := fun k t => _) works_ev (ev_pos rfl ?_)
  obtain ⟨n, hn, hn2⟩ := number_some a ha.1 ha.2
  refine ev_some (f := fun k t => _) hn ?_
  refine Ev.bind (f := fun k t => _) (num_ev _) ?_
  rw [numI_ok n hn2]
  obtain ⟨c1, c2, c3⟩ := cut5 l
  refine ev_pos c1 (ev_pos c2 ?_)
  have hB2 := BI_take hB (mn (l.length : Int) 5000).toNat
  generalize l.take (mn (l.length : Int) 5000).toNat = t at c3 hB2
  refine Ev.bind (f := fun k t => _) (text_ev t _ (by omega)) ?_
  rw [textI_ok t _ (by omega)]
  have p1 := enc_pos n
  have p2 := enc_pos t.length
  have p3 := enc_le8 n hn2
  have p4 := enc_le8 t.length (by omega)
  refine ev_pos rfl (ev_pos rfl (ev_neg (by first | omega | (dsimp only; omega)) ?_))
  refine Ev.step (f := fun k => _) (fun k => by simp only [incunablelaw01_VarnumCut.j0]; rfl) ?_
  refine ev_neg (by rw [List.length_append]; simp; omega) ?_
  obtain ⟨b1, hb1, b1a, b1b⟩ := bring_some at_ ((enc n).length : Int) hat.1 hat.2 (by omega) (by omega)
  obtain ⟨b2, hb2, b2a, b2b⟩ := bring_some at_ ((enc t.length ++ t).length : Int) hat.1 hat.2 (by rw [List.length_append]; omega) (by rw [List.length_append]; omega)
  refine ev_some (f := fun k t => _) hb1 (ev_pos b1a (ev_pos (by first | omega | (dsimp only; omega)) ?_))
  refine Ev.bind (f := fun k t => _) (taken_ev _ (BI_take (enc_BI n n (by omega)) _) (by rw [List.length_take]; omega)) ?_
  rw [takeI_err _ 3 (tk_cut n b1.toNat (by omega) hn2) (by decide)]
  refine ev_some (f := fun k t => _) hb2 (ev_pos b2a (ev_pos (by first | omega | (dsimp only; omega)) ?_))
  refine Ev.bind (f := fun k t => _) (takeText_ev _ _ (BI_take (BI_append (enc_BI t.length t.length (by omega)) hB2) _) (by rw [List.length_take, List.length_append]; omega)) ?_
  rw [takeTextI_cut t _ b2.toNat (by omega) (by omega) (by omega)]
  exact ev_pos rfl (Ev.now _)
end Go.Proofs.Ytnonhhblfmceaaa.Pure
