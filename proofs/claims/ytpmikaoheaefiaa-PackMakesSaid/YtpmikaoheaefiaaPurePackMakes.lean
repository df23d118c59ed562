/- PackMakes: Pack and Find answer as the document says, of all kinds, sections and tags that a machine can hold; what is handed in stays, what is answered is memory of its own. -/
import Derived.Test.YtpmikaoheaefiaaXx18
import Derived.Test.YtpmikaoheaefiaaXPkRef
import Derived.Test.YtpmikaoheaefiaaXrPackMakes
namespace Go.Proofs.Ytpmikaoheaefiaa.Pure
set_option linter.unusedVariables false
set_option linter.unusedSimpArgs false
open Go.RowKit Go.Proofs.Ytpmikaoheaefiaa.X Go.Proofs.YtpmikaoheaefiaaW.PrintWords Go.Proofs.YtpmikaoheaefiaaW.PrintLast Go.Proofs.YtpmikaoheaefiaaW.PrintMore

theorem PackMakes : incunablelaw03_PackMakes.Pure := by
  intro a l t ha hlm hl32 hrl hw0 hw ht
  have hO : OKs l := fun s hs => BI_wf (hw s hs)
  have hn : l.length < 4398046511104 := by omega
  have hs : ∀ s ∈ l, s.f1.length < 225179981368000 := fun s h => by have := hrl s h; omega
  have hb : ∀ s ∈ l, s.f1.length ≤ 140737488355300 := fun s h => by have := hrl s h; omega
  have hb2 : ∀ s ∈ l, s.f1.length ≤ 9223372036854775800 := fun s h => by have := hrl s h; omega
  have hfl := findI_length l t 140737488355300 hb
  have hpl := packI_length a l
  refine Ev.rounds ?_
  unfold incunablelaw03_PackMakes.f
  refine Ev.bind (f := fun k t => _) (copyS_ev l hn hs) ?_
  refine Ev.bind (f := fun k t => _) (pack_ev a l (by omega) hO hb) ?_
  refine Ev.bind (f := fun k t => _) (rpack_ev a l (by omega) hO hb) ?_
  refine Ev.bind (f := fun k t => _) (find_ev l (by omega) hs t) ?_
  refine Ev.bind (f := fun k t => _) (rfind_ev l (by omega) hs t) ?_
  refine Ev.bind (f := fun k t => _) (same_ev _ _ rfl (by omega)) (ev_pos rfl (ev_pos rfl ?_))
  refine Ev.bind (f := fun k t => _) (same_ev _ _ rfl (by omega)) (ev_pos rfl ?_)
  refine Ev.step (f := fun k => _) (fun k => by simp only [incunablelaw03_PackMakes.j0]; rfl) ?_
  refine ev_neg (by simp) ?_
  obtain ⟨r1, h1⟩ := spoil_ev (packI a l).1 (by omega)
  obtain ⟨r2, h2⟩ := spoil_ev (findI l t).1 (by omega)
  refine Ev.bind (f := fun k t => _) h1 ?_
  refine Ev.bind (f := fun k t => _) h2 ?_
  refine Ev.bind (f := fun k t => _) (sameS_ev l (by omega) hb2) (ev_pos rfl ?_)
  exact Ev.bind (f := fun _ t => some t) works_ev (Ev.now _)
end Go.Proofs.Ytpmikaoheaefiaa.Pure
