/- PackBack: what was packed is unpacked as it was, and its size stands in it: for all kinds and all lists of bytes that a machine can hold. -/
import Derived.Test.YtpmikaoheaefiaaXx24
import Derived.Test.YtpmikaoheaefiaaXPkB
import Derived.Test.YtpmikaoheaefiaaXrPackBack
namespace Go.Proofs.Ytpmikaoheaefiaa.Pure
set_option linter.unusedVariables false
set_option linter.unusedSimpArgs false
open Go.RowKit Go.Proofs.Ytpmikaoheaefiaa.X Go.Proofs.YtpmikaoheaefiaaW.PrintWords Go.Proofs.YtpmikaoheaefiaaW.PrintLast Go.Proofs.YtpmikaoheaefiaaW.PrintMore

theorem PackBack : incunablelaw03_PackBack.Pure := by
  intro a l ha hlm hl24 hrl hw
  obtain ⟨a0, a1⟩ := wf_i64 ha
  have hB : ∀ r ∈ l, BI r := fun r hr => BI_wf (hw r hr)
  refine Ev.rounds ?_
  unfold incunablelaw03_PackBack.f
  refine Ev.bind (f := fun k t => _) works_ev (ev_pos rfl ?_)
  refine Ev.bind (f := fun k t => _) (made_ev l (fun r hr => by have := hrl r hr; omega)) ?_
  obtain ⟨r, hr, r0, r1⟩ := bring_some a 256 a0 a1 (by omega) (by omega)
  refine ev_some (f := fun k t => _) hr ?_
  obtain ⟨h1, h2, h3, h4, h5⟩ := madeI_pack l hB r r0 (by omega)
  obtain ⟨f1, f2, f3, f4, f5⟩ := madeI_facts l hB
  obtain ⟨w1, w2, _⟩ := whole_parts _ h3
  refine Ev.bind (f := fun k t => _) h5 ?_
  refine Ev.bind (f := fun k t => _) (unpack_ev _ h4 (by dsimp only; omega)) ?_
  refine Ev.bind (f := fun k t => _) (size_ev _ h4 (by dsimp only; omega)) ?_
  dsimp only
  rw [h2, show sizeI (sealI (packB r (madeI l))) = (((sealI (packB r (madeI l))).length : Int), 0) from h3]
  refine ev_pos rfl (ev_pos rfl (ev_pos rfl ?_))
  refine ev_some (f := fun k t => _) hr (ev_pos rfl ?_)
  refine Ev.bind (f := fun k t => _) (sameS_ev (madeI l) (by omega) (fun s hs => by have := f2 s hs; omega)) (ev_pos rfl ?_)
  refine ev_eq ?_ (Ev.now _)
  simp
end Go.Proofs.Ytpmikaoheaefiaa.Pure
