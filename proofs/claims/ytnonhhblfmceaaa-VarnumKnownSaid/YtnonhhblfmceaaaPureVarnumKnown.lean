/- VarnumKnown: the chapter's examples, both ends. -/
import Derived.Test.YtnonhhblfmceaaaXx29
import Derived.Test.YtnonhhblfmceaaaXVarJoin
import Derived.Test.YtnonhhblfmceaaaXVarTexts
namespace Go.Proofs.Ytnonhhblfmceaaa.Pure
set_option linter.unusedVariables false
open Go.RowKit Go.Proofs.Ytnonhhblfmceaaa.X Go.Proofs.YtnonhhblfmceaaaW.PrintWords Go.Proofs.YtnonhhblfmceaaaW.PrintLast Go.Proofs.YtnonhhblfmceaaaW.PrintMore

theorem enc_top : enc 9007199254740991 = [255, 255, 255, 255, 255, 255, 255, 15] := by
  rw [enc_big _ (by omega), enc_big _ (by omega), enc_big _ (by omega), enc_big _ (by omega), enc_big _ (by omega), enc_big _ (by omega), enc_big _ (by omega), enc_small _ (by omega)]; rfl
theorem enc_49 : enc 562949953421312 = [128, 128, 128, 128, 128, 128, 128, 1] := by
  rw [enc_big _ (by omega), enc_big _ (by omega), enc_big _ (by omega), enc_big _ (by omega), enc_big _ (by omega), enc_big _ (by omega), enc_big _ (by omega), enc_small _ (by omega)]; rfl
theorem enc_49' : enc 562949953421311 = [255, 255, 255, 255, 255, 255, 127] := by
  rw [enc_big _ (by omega), enc_big _ (by omega), enc_big _ (by omega), enc_big _ (by omega), enc_big _ (by omega), enc_big _ (by omega), enc_small _ (by omega)]; rfl
theorem enc_16383 : enc 16383 = [255, 127] := by
  rw [enc_big _ (by omega), enc_small _ (by omega)]; rfl
theorem enc_16384 : enc 16384 = [128, 128, 1] := by
  rw [enc_big _ (by omega), enc_big _ (by omega), enc_small _ (by omega)]; rfl
theorem VarnumKnown : incunablelaw01_VarnumKnown.Pure := by
  refine Ev.rounds ?_
  unfold incunablelaw01_VarnumKnown.f
  refine Ev.bind (f := fun k t => _) (is_ev 9007199254740991 _ (by omega) enc_top) (ev_pos rfl ?_)
  refine Ev.bind (f := fun k t => _) (is_ev 562949953421312 _ (by omega) enc_49) (ev_pos rfl ?_)
  refine Ev.bind (f := fun k t => _) (is_ev 562949953421311 _ (by omega) enc_49') (ev_pos rfl ?_)
  refine Ev.bind (f := fun k t => _) (is_ev 16383 _ (by omega) enc_16383) (ev_pos rfl ?_)
  refine Ev.bind (f := fun k t => _) (is_ev 16384 _ (by omega) enc_16384) ?_
  refine Ev.bind (f := fun k t => _) (num_ev _) ?_
  refine Ev.bind (f := fun k t => _) (num_ev _) ?_
  rw [show numI (-1) = ([], 2) by unfold numI; rw [if_neg (by omega)], show numI 9007199254740992 = ([], 2) by unfold numI; rw [if_neg (by omega)]]
  refine ev_pos rfl (ev_pos rfl ?_)
  refine Ev.bind (f := fun k t => _) (fails_ev 3 [] BI_nil (by decide) (by decide)) (ev_pos rfl ?_)
  refine Ev.bind (f := fun k t => _) (fails_ev 4 [255, 255, 255, 255, 255, 255, 255, 16] (BI_of _ (by decide)) (by decide) (by decide)) (ev_pos rfl ?_)
  refine Ev.bind (f := fun k t => _) (fails_ev 4 [255, 255, 255, 255, 255, 255, 255, 255] (BI_of _ (by decide)) (by decide) (by decide)) (ev_pos rfl ?_)
  refine Ev.bind (f := fun k t => _) (fails_ev 4 [128, 128, 128, 128, 128, 128, 128, 128, 1] (BI_of _ (by decide)) (by decide) (by decide)) (ev_pos rfl ?_)
  refine Ev.bind (f := fun k t => _) (fails_ev 3 [255, 255, 255, 255, 255, 255, 255] (BI_of _ (by decide)) (by decide) (by decide)) (ev_pos rfl ?_)
  refine Ev.bind (f := fun k t => _) (fails_ev 4 [129, 0] (BI_of _ (by decide)) (by decide) (by decide)) (ev_pos rfl ?_)
  refine Ev.bind (f := fun k t => _) (fails_ev 4 [128, 128, 0] (BI_of _ (by decide)) (by decide) (by decide)) ?_
  refine Ev.bind (f := fun k t => _) (text_ev _ _ (by decide)) ?_
  refine Ev.bind (f := fun k t => _) (text_ev _ _ (by decide)) ?_
  refine Ev.bind (f := fun k t => _) (text_ev _ _ (by decide)) ?_
  rw [show textI [] (-1) = ([], 2) by unfold textI; rw [if_pos (by omega)], show textI [1] 0 = ([], 5) by unfold textI; rw [if_neg (by omega), if_pos (by decide)], textI_ok [] 0 (by decide), show enc ([] : List Int).length = [0] from enc_small 0 (by omega)]
  refine Ev.bind (f := fun k t => _) (takeText_ev [9] (-1) (BI_of _ (by decide)) (by decide)) ?_
  refine Ev.bind (f := fun k t => _) (takeText_ev [2, 1] 1 (BI_of _ (by decide)) (by decide)) ?_
  refine Ev.bind (f := fun k t => _) (takeText_ev [2, 1] 2 (BI_of _ (by decide)) (by decide)) ?_
  refine Ev.bind (f := fun k t => _) (takeText_ev [128, 0] 2 (BI_of _ (by decide)) (by decide)) ?_
  refine Ev.bind (f := fun k t => _) (takeText_ev [0, 5] 0 (BI_of _ (by decide)) (by decide)) ?_
  rw [show takeTextI [9] (-1) = ([], [], 2) by decide, show takeTextI [2, 1] 1 = ([], [], 5) by decide, show takeTextI [2, 1] 2 = ([], [], 3) by decide, show takeTextI [128, 0] 2 = ([], [], 4) by decide, show takeTextI [0, 5] 0 = ([], [5], 0) by decide]
  refine ev_pos rfl (ev_pos rfl (ev_pos rfl ?_))
  refine Ev.bind (f := fun k t => _) (same_ev _ _ rfl (by decide)) (ev_pos rfl ?_)
  refine ev_pos rfl (ev_pos rfl (ev_pos rfl (ev_pos rfl (ev_pos rfl (ev_pos rfl ?_)))))
  refine Ev.bind (f := fun k t => _) (same_ev _ _ rfl (by decide)) ?_
  refine Ev.bind (f := fun k t => _) works_ev ?_
  refine ev_pos rfl (ev_pos rfl (ev_pos rfl (ev_pos rfl ?_)))
  refine Ev.bind (f := fun k t => _) (join_ev [] (by decide) (by decide)) (ev_pos rfl ?_)
  refine Ev.bind (f := fun k t => _) (join_ev [[1], [], [2, 3]] (by decide) (by decide)) ?_
  exact Ev.bind (f := fun _ t => some t) (same_ev _ _ rfl (by decide)) (Ev.now _)
end Go.Proofs.Ytnonhhblfmceaaa.Pure
