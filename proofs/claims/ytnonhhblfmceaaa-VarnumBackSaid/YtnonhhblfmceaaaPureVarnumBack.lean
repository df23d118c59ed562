/- VarnumBack: what was written is read as it was, and what stands behind it is left. -/
import Derived.Test.YtnonhhblfmceaaaXx19
import Derived.Test.YtnonhhblfmceaaaXVarTexts
namespace Go.Proofs.Ytnonhhblfmceaaa.Pure
set_option linter.unusedVariables false
open Go.RowKit Go.Proofs.Ytnonhhblfmceaaa.X Go.Proofs.YtnonhhblfmceaaaW.PrintWords Go.Proofs.YtnonhhblfmceaaaW.PrintLast Go.Proofs.YtnonhhblfmceaaaW.PrintMore

theorem VarnumBack : incunablelaw01_VarnumBack.Pure := by
  intro a s r ha hsm hsl hsw hrm hrl hrw
  have hBs := BI_wf hsw
  have hBr := BI_wf hrw
  have ha := wf_i64 ha
  refine Ev.rounds ?_
  unfold incunablelaw01_VarnumBack.f
  refine Ev.bind (f := fun k t => _) works_ev (ev_pos rfl ?_)
  obtain ⟨c1, c2, c3⟩ := cut5 s
  refine ev_pos c1 (ev_pos c2 ?_)
  have hB2 := BI_take hBs (mn (s.length : Int) 5000).toNat
  generalize s.take (mn (s.length : Int) 5000).toNat = t at c3 hB2
  obtain ⟨n, hn, hn2⟩ := number_some a ha.1 ha.2
  refine ev_some (f := fun k t => _) hn ?_
  refine Ev.bind (f := fun k t => _) (num_ev _) ?_
  rw [numI_ok n hn2]
  refine Ev.bind (f := fun k t => _) (text_ev t _ (by omega)) ?_
  rw [textI_ok t _ (by omega)]
  have p3 := enc_le8 n hn2
  have p4 := enc_le8 t.length (by omega)
  have hBn := enc_BI n n (by omega)
  have hBt := enc_BI t.length t.length (by omega)
  refine ev_some (f := fun k t => _) (copy_some (enc n) (by omega)) ?_
  refine ev_pos (by dsimp only; rw [List.length_append]; omega) ?_
  refine ev_some (f := fun k t => _) rfl ?_
  refine ev_pos (by dsimp only; rw [List.length_append, List.length_append]; omega) ?_
  have e1 : enc n ++ (enc t.length ++ t) ++ r = enc n ++ (enc t.length ++ (t ++ r)) := by simp only [List.append_assoc]
  dsimp only
  rw [e1]
  have hl : (enc n ++ (enc t.length ++ (t ++ r))).length < 225179981368000 := by simp only [List.length_append]; omega
  refine Ev.bind (f := fun k t => _) (taken_ev _ (BI_append hBn (BI_append hBt (BI_append hB2 hBr))) hl) ?_
  rw [takeI_ok _ n _ (tk_enc n _ hn2), List.drop_left]
  have hl2 : (enc t.length ++ (t ++ r)).length < 225179981368000 := by simp only [List.length_append]; omega
  dsimp only
  refine Ev.bind (f := fun k t => _) (takeText_ev _ _ (BI_append hBt (BI_append hB2 hBr)) hl2) ?_
  rw [takeTextI_enc t r _ (by omega) (by omega)]
  refine ev_pos rfl (ev_pos rfl (ev_pos rfl ?_))
  refine ev_some (f := fun k t => _) hn (ev_pos rfl (ev_pos rfl ?_))
  dsimp only
  refine Ev.bind (f := fun k t => _) (same_ev _ _ rfl (by omega)) (ev_pos rfl ?_)
  exact Ev.bind (f := fun _ t => some t) (same_ev _ _ rfl (by omega)) (Ev.now _)
end Go.Proofs.Ytnonhhblfmceaaa.Pure
