/- CrcKnown: the chapter's examples and others; each byte alone (a closed statement). -/
import Derived.Test.YtimpejljlnnlaaaXx17
import Derived.Test.YtimpejljlnnlaaaPureCrcBack
import Derived.Test.YtimpejljlnnlaaaPureCrcReach
import Derived.Test.YtimpejljlnnlaaaPureCrcPlaces
namespace Go.Proofs.Ytimpejljlnnlaaa.Pure
set_option linter.unusedVariables false
open Go.RowKit Go.Proofs.Ytimpejljlnnlaaa.X Go.Proofs.YtimpejljlnnlaaaW.PrintWords Go.Proofs.YtimpejljlnnlaaaW.PrintLast Go.Proofs.YtimpejljlnnlaaaW.PrintMore

theorem known_end : Ev (fun k => incunablelaw02_CrcKnown.l0 k 256) true := by
  refine Ev.step (f := fun k => _) (fun k => by simp only [incunablelaw02_CrcKnown.l0]; rfl) ?_
  refine ev_neg (by omega) ?_
  refine Ev.bind (f := fun k t => _) works_ev (ev_pos rfl ?_)
  refine Ev.bind (f := fun k t => _) (on_ev 0 _ (by omega) (by omega) (BI_of _ (by decide)) (by decide)) ?_
  refine ev_pos (by decide +kernel) ?_
  refine Ev.bind (f := fun k t => _) (on_ev 5 [] (by omega) (by omega) BI_nil (by decide)) ?_
  refine ev_pos (by decide +kernel) (ev_pos (by decide) ?_)
  refine Ev.bind (f := fun k t => _) (of_ev _ (BI_of _ (by decide)) (by decide)) ?_
  refine ev_pos (by decide +kernel) (ev_pos (by decide) ?_)
  refine Ev.bind (f := fun _ t247 => some (t247 != 558161692)) (of_ev _ (BI_of _ (by decide)) (by decide)) ?_
  exact ev_eq (by decide +kernel) (Ev.now _)
theorem known_loop (d : Nat) : ∀ (i : Nat), i + d = 256 → Ev (fun k => incunablelaw02_CrcKnown.l0 k (i : Int)) true := by
  induction d with
  | zero =>
    intro i hi
    have : i = 256 := by omega
    subst this
    exact known_end
  | succ d ih =>
    intro i hi
    have e1 : (i : Int) % 4294967296 = (i : Int) := by omega
    have e2 : (i : Int) % 256 = (i : Int) := by omega
    refine Ev.step (f := fun k => _) (fun k => by simp only [incunablelaw02_CrcKnown.l0]; rfl) ?_
    refine ev_pos (by omega) ?_
    simp only [Option.bind_some, e1, e2]
    have hB : BI [(i : Int)] := BI_cons (by omega) (by omega) BI_nil
    refine Ev.bind (f := fun k t => _) (CrcBack_ev _ _ _ (by omega) (by omega) (by omega) (by omega) hB) (ev_pos rfl ?_)
    refine Ev.bind (f := fun k t => _) (CrcReach_ev _ _ _ hB (by omega) (by omega) (by omega) (by omega)) (ev_pos rfl ?_)
    refine Ev.bind (f := fun k t => _) (CrcPlaces_ev _ _ (BI_cons (by omega) (by omega) (BI_cons (by omega) (by omega) BI_nil)) (by simp) (by omega) (by omega)) (ev_pos rfl ?_)
    rw [w64 (by omega) (by omega)]
    exact ih (i + 1) (by omega)
theorem CrcKnown : incunablelaw02_CrcKnown.Pure := by
  refine Ev.rounds ?_
  unfold incunablelaw02_CrcKnown.f
  exact known_loop 256 0 (by omega)
end Go.Proofs.Ytimpejljlnnlaaa.Pure
