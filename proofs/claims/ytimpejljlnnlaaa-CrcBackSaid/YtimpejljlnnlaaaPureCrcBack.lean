/- CrcBack: the sum ahead of some bytes is told from the one behind them, and there is just one: for any two sums and all bytes that a machine can hold. -/
import Derived.Test.YtimpejljlnnlaaaXx11
import Derived.Test.YtimpejljlnnlaaaXCrcMore
namespace Go.Proofs.Ytimpejljlnnlaaa.Pure
set_option linter.unusedVariables false
open Go.RowKit Go.Proofs.Ytimpejljlnnlaaa.X Go.Proofs.YtimpejljlnnlaaaW.PrintWords Go.Proofs.YtimpejljlnnlaaaW.PrintLast Go.Proofs.YtimpejljlnnlaaaW.PrintMore

theorem CrcBack_ev (a b : Int) (l : List Int) (a0 : 0 ≤ a) (a1 : a < 4294967296) (b0 : 0 ≤ b) (b1 : b < 4294967296) (hB0 : BI l) : Ev (fun k => incunablelaw02_CrcBack.f k a b l) true := by
  unfold incunablelaw02_CrcBack.f
  obtain ⟨m1, m2, m3⟩ := mn_spec (l.length : Int) 2000
  generalize mn (l.length : Int) 2000 = m at m1 m2 m3
  have m0 : 0 ≤ m := by omega
  have hB := BI_take hB0 m.toNat
  have hn : (l.take m.toNat).length ≤ 9223372036854775800 := by rw [List.length_take]; omega
  generalize l.take m.toNat = t at hB hn
  refine Ev.bind (f := fun k t => _) works_ev ?_
  refine ev_pos rfl (ev_pos m0 (ev_pos m1 ?_))
  obtain ⟨o0, o1⟩ := onI_range a t a0 a1 hB
  obtain ⟨p0, p1⟩ := aheadI_range b t b0 b1 hB
  refine Ev.bind (f := fun k t => _) (on_ev a t a0 a1 hB hn) ?_
  refine Ev.bind (f := fun k t => _) (ahead_ev _ t o0 o1 hB hn) ?_
  refine ev_pos (aheadI_onI a t a0 a1 hB) ?_
  refine Ev.bind (f := fun k t => _) (ahead_ev b t b0 b1 hB hn) ?_
  refine Ev.bind (f := fun k t => _) (on_ev _ t p0 p1 hB hn) ?_
  refine ev_pos (onI_aheadI b t b0 b1 hB) ?_
  refine Ev.bind (f := fun _ t163 => some ((t163 == onI a t) == (b == a))) (on_ev b t b0 b1 hB hn) ?_
  refine ev_eq ?_ (Ev.now _)
  rw [beq_iff_eq, Bool.eq_iff_iff, beq_iff_eq, beq_iff_eq]
  exact ⟨fun h => onI_inj b a t b0 b1 a0 a1 hB h, fun h => by rw [h]⟩
theorem CrcBack : incunablelaw02_CrcBack.Pure := by
  intro a b l ha hb hm hl hw
  obtain ⟨a0, a1⟩ := wf_u32 ha
  obtain ⟨b0, b1⟩ := wf_u32 hb
  exact Ev.rounds (CrcBack_ev a b l a0 a1 b0 b1 (BI_wf hw))
end Go.Proofs.Ytimpejljlnnlaaa.Pure
