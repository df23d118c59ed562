/- CrcReach: for each sum, behind any bytes, just four bytes make it the sum of all; the sum's own four make it 2144DF1C: for all bytes that a machine can hold, and all sums. -/
import Derived.Test.YtimpejljlnnlaaaXx13
import Derived.Test.YtimpejljlnnlaaaXCrcMore
namespace Go.Proofs.Ytimpejljlnnlaaa.Pure
set_option linter.unusedVariables false
open Go.RowKit Go.Proofs.Ytimpejljlnnlaaa.X Go.Proofs.YtimpejljlnnlaaaW.PrintWords Go.Proofs.YtimpejljlnnlaaaW.PrintLast Go.Proofs.YtimpejljlnnlaaaW.PrintMore

theorem onI_four (t : List Int) (ht : BI t) (x : Int) (x0 : 0 ≤ x) : onI 0 (t ++ fourI x) = ((Crc.on (Crc.on 0 (nat t)) (Crc.four x.toNat) : Nat) : Int) := by
  unfold onI
  rw [nat_append, Crc.on_append, nat_fourI x x0]; rfl
theorem CrcReach_ev (l : List Int) (b c : Int) (hB0 : BI l) (b0 : 0 ≤ b) (b1 : b < 4294967296) (c0 : 0 ≤ c) (c1 : c < 4294967296) : Ev (fun k => incunablelaw02_CrcReach.f k l b c) true := by
  unfold incunablelaw02_CrcReach.f
  obtain ⟨m1, m2, m3⟩ := mn_spec (l.length : Int) 2000
  generalize mn (l.length : Int) 2000 = m at m1 m2 m3
  have m0 : 0 ≤ m := by omega
  have hB := BI_take hB0 m.toNat
  have hn : (l.take m.toNat).length ≤ 2000 := by rw [List.length_take]; omega
  generalize l.take m.toNat = t at hB hn
  have hz : BI (List.replicate 4 0) := BI_of _ (by decide)
  obtain ⟨o0, o1⟩ := onI_range 0 t (by omega) (by omega) hB
  obtain ⟨p0, p1⟩ := aheadI_range b (List.replicate 4 0) b0 b1 hz
  refine Ev.bind (f := fun k t => _) works_ev ?_
  refine ev_pos rfl (ev_pos m0 (ev_pos m1 ?_))
  refine Ev.bind (f := fun k t => _) (of_ev t hB (by omega)) ?_
  refine ev_pos (by decide) ?_
  refine Ev.bind (f := fun k t => _) (ahead_ev b _ b0 b1 hz (by decide)) ?_
  have hs : Crc.on 0 (nat t) < 4294967296 := Crc.on_lt 0 _ (by omega) (nat_B hB)
  have hz4 : nat (List.replicate 4 0) = Crc.four 0 := by decide
  have hA : Crc.ahead b.toNat (Crc.four 0) < 4294967296 := Crc.not_lt _ (Crc.back_lt _ _ (Crc.not_lt _ (by omega)) (Crc.four_B 0))
  have hx : Go.bits .xor .u32 (onI 0 t) (aheadI b (List.replicate 4 0)) = ((Crc.on 0 (nat t) ^^^ Crc.ahead b.toNat (Crc.four 0) : Nat) : Int) := by
    unfold onI aheadI
    rw [hz4]
    exact u32_xor_nat _ _ hs hA
  have hxl : Crc.on 0 (nat t) ^^^ Crc.ahead b.toNat (Crc.four 0) < 4294967296 := Nat.xor_lt_two_pow (n := 32) hs hA
  rw [hx]
  have reach := Crc.reach (Crc.on 0 (nat t)) b.toNat hs (by omega)
  generalize Crc.on 0 (nat t) ^^^ Crc.ahead b.toNat (Crc.four 0) = n at hxl reach
  have hfl : ∀ x, (fourI x).length = 4 := fun _ => rfl
  refine ev_some (f := fun k t => _) (four_some _) ?_
  refine ev_some (f := fun k t => _) (behind_some _ _ (by rw [hfl]; omega)) ?_
  refine Ev.bind (f := fun k t => _) (of_ev _ (BI_append hB (fourI_BI _)) (by rw [List.length_append, hfl]; omega)) ?_
  refine ev_pos (by rw [onI_four t hB _ (by omega), Int.toNat_natCast, reach]; omega) ?_
  refine ev_some (f := fun k t => _) (four_some _) ?_
  refine ev_some (f := fun k t => _) (behind_some _ _ (by rw [hfl]; omega)) ?_
  refine Ev.bind (f := fun k t => _) (of_ev _ (BI_append hB (fourI_BI _)) (by rw [List.length_append, hfl]; omega)) ?_
  have hres : onI 0 (t ++ fourI (onI 0 t)) = 558161692 := by
    rw [onI_four t hB _ o0]
    have := Crc.residue (Crc.on 0 (nat t)) hs
    unfold onI
    rw [Int.toNat_natCast, show (0 : Int).toNat = 0 from rfl, this]; rfl
  rw [hres, show ((558161692 : Int) != 558161692) = false by decide]
  refine Ev.step (f := fun k => _) (fun k => by simp only [incunablelaw02_CrcReach.j0]; rfl) ?_
  refine ev_neg (by decide) ?_
  refine ev_some (f := fun k t => _) (four_some _) ?_
  refine ev_some (f := fun k t => _) (behind_some _ _ (by rw [hfl]; omega)) ?_
  refine Ev.bind (f := fun _ t200 => some ((t200 == b) == (c == (n : Int)))) (of_ev _ (BI_append hB (fourI_BI _)) (by rw [List.length_append, hfl]; omega)) ?_
  refine ev_eq ?_ (Ev.now _)
  rw [beq_iff_eq, Bool.eq_iff_iff, beq_iff_eq, beq_iff_eq, onI_four t hB _ c0]
  constructor
  · intro h
    have := Crc.on_four_inj (Crc.on 0 (nat t)) c.toNat n hs (by omega) hxl (by rw [reach]; omega)
    omega
  · rintro rfl
    rw [Int.toNat_natCast, reach]; omega
theorem CrcReach : incunablelaw02_CrcReach.Pure := by
  intro l b c hm hl hw hb hc
  obtain ⟨b0, b1⟩ := wf_u32 hb
  obtain ⟨c0, c1⟩ := wf_u32 hc
  exact Ev.rounds (CrcReach_ev l b c (BI_wf hw) b0 b1 c0 c1)
end Go.Proofs.Ytimpejljlnnlaaa.Pure
