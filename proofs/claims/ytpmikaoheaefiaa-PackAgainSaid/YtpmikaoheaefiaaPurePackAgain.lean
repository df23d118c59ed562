/- PackAgain: what can be unpacked is packed so: for all bytes that a machine can hold. -/
import Derived.Test.YtpmikaoheaefiaaXx24
import Derived.Test.YtpmikaoheaefiaaXPkB
namespace Go.Proofs.Ytpmikaoheaefiaa.Pure
set_option linter.unusedVariables false
set_option linter.unusedSimpArgs false
open Go.RowKit Go.Proofs.Ytpmikaoheaefiaa.X Go.Proofs.YtpmikaoheaefiaaW.PrintWords Go.Proofs.YtpmikaoheaefiaaW.PrintLast Go.Proofs.YtpmikaoheaefiaaW.PrintMore

theorem PackAgain : incunablelaw03_PackAgain.Pure := by
  intro b hm hl hw
  have hB := BI_wf hw
  refine Ev.rounds ?_
  unfold incunablelaw03_PackAgain.f
  refine Ev.bind (f := fun k t => _) works_ev (ev_pos rfl ?_)
  refine Ev.bind (f := fun k t => _) (unpack_ev b hB (by omega)) ?_
  by_cases h : (unpackI b).2.2 = 0
  · refine ev_pos h ?_
    obtain ⟨h1, h2, h3⟩ := pack_unpackI b hB (unpackI b).1 (unpackI b).2.1 (by rw [← h])
    obtain ⟨_, _, h4, _⟩ := packI_ok _ _ _ h1
    have hp := pack_ev (unpackI b).1 (unpackI b).2.1 (by have := (okay_length _ _ h3).1; omega) h2 (fun s hs => by have := h4 s hs; omega)
    rw [h1] at hp
    refine Ev.bind (f := fun k t => _) hp (ev_pos rfl ?_)
    exact Ev.bind (f := fun _ t => some t) (same_ev _ _ rfl (by omega)) (Ev.now _)
  · refine ev_neg h ?_
    obtain ⟨h1, h2⟩ := unpackI_bad b h
    refine ev_pos h1 ?_
    rw [h2]
    exact Ev.now _
end Go.Proofs.Ytpmikaoheaefiaa.Pure
