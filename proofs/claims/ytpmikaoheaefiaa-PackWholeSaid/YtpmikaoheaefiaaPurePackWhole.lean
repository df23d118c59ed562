/- PackWhole: each beginning of a pack that is not all of it, and each pack with something behind it, is none: for all lists of bytes, places and bytes behind that a machine can hold. -/
import Derived.Test.YtpmikaoheaefiaaXx26
import Derived.Test.YtpmikaoheaefiaaXPkB
import Derived.Test.YtpmikaoheaefiaaXrPackWhole
namespace Go.Proofs.Ytpmikaoheaefiaa.Pure
set_option linter.unusedVariables false
set_option linter.unusedSimpArgs false
open Go.RowKit Go.Proofs.Ytpmikaoheaefiaa.X Go.Proofs.YtpmikaoheaefiaaW.PrintWords Go.Proofs.YtpmikaoheaefiaaW.PrintLast Go.Proofs.YtpmikaoheaefiaaW.PrintMore

theorem PackWhole : incunablelaw03_PackWhole.Pure := by
  intro l a c hlm hl24 hrl hw ha hcm hcl hcw
  obtain ⟨a0, a1⟩ := wf_i64 ha
  have hB : ∀ r ∈ l, BI r := fun r hr => BI_wf (hw r hr)
  have hC := BI_wf hcw
  refine Ev.rounds ?_
  unfold incunablelaw03_PackWhole.f
  refine Ev.bind (f := fun k t => _) works_ev (ev_pos rfl ?_)
  refine Ev.bind (f := fun k t => _) (made_ev l (fun r hr => by have := hrl r hr; omega)) ?_
  obtain ⟨h1, h2, h3, h4, h5⟩ := madeI_pack l hB 1 (by omega) (by omega)
  obtain ⟨w1, w2, _⟩ := whole_parts _ h3
  refine Ev.bind (f := fun k t => _) h5 (ev_pos rfl ?_)
  dsimp only
  generalize sealI (packB 1 (madeI l)) = b at h2 h3 h4 w1 w2
  refine Ev.step (f := fun k => _) (fun k => by simp only [incunablelaw03_PackWhole.j0]; rfl) ?_
  refine ev_neg (by intro h; have := beq_iff_eq.1 h; omega) ?_
  obtain ⟨t, ht, t0, t1⟩ := bring_some a (b.length : Int) a0 a1 (by omega) (by omega)
  obtain ⟨t, rfl⟩ := Int.eq_ofNat_of_zero_le t0
  refine ev_some (f := fun k t => _) ht (ev_pos t0 (ev_pos (by omega) ?_))
  rw [Int.toNat_natCast]
  refine Ev.bind (f := fun k t => _) (unpack_ev _ (BI_take h4 t) (by rw [List.length_take]; omega)) ?_
  rw [unpack_take b h3 t (by omega)]
  refine ev_some (f := fun k t => _) (copy_some b (by omega)) (ev_pos (by omega) ?_)
  refine Ev.bind (f := fun k t => _) (unpack_ev _ (BI_append h4 hC) (by rw [List.length_append]; omega)) ?_
  refine ev_some (f := fun k t => _) (copy_some b (by omega)) (ev_pos (by omega) ?_)
  refine Ev.bind (f := fun k t => _) (size_ev _ (BI_append h4 hC) (by rw [List.length_append]; omega)) ?_
  rw [size_left b c h3]
  refine ev_pos rfl ?_
  by_cases hc : c = []
  · subst hc
    rw [List.append_nil, h2]
    refine ev_pos (by simp) (ev_pos rfl (ev_pos rfl ?_))
    refine ev_eq ?_ (Ev.now _)
    simp
  · rw [unpack_behind b c h3 hc]
    refine ev_pos (by simpa using hc) (ev_neg (by decide) (ev_pos rfl (ev_pos rfl ?_)))
    refine ev_eq ?_ (Ev.now _)
    simp
end Go.Proofs.Ytpmikaoheaefiaa.Pure
