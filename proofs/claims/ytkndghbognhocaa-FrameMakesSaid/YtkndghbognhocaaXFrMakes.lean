/- FrameMakes. -/
import Derived.Test.YtkndghbognhocaaXFrG3
import Derived.Test.YtkndghbognhocaaXx0
namespace Go.Proofs.Ytkndghbognhocaa.X
open Go.RowKit Go.Proofs.YtkndghbognhocaaW.PrintWords Go.Proofs.YtkndghbognhocaaW.PrintLast Go.Proofs.YtkndghbognhocaaW.PrintMore Go.Proofs.Ytkndghbognhocaa.Pure
attribute [local go_sem] max2_int min2_int max_two min_two max_three min_three max_four min_four
set_option linter.unusedVariables false
set_option linter.unusedSimpArgs false
def incunablelaw28_FrameMakes.f (k : Nat) (l0 : List Int) : Option Bool := if okB l0 = true then some true else none
set_option maxHeartbeats 16000000 in
set_option maxRecDepth 100000 in
theorem incunablelaw28_FrameMakes.calls (k : Nat) (A0 : Option Addr) (c0 : Nat) (l0 : List Int) (r : Bool) (w : World) (hr0 : Kd.C (Kd.int .u8) w A0 l0.length l0) (hc0 : l0.length ≤ c0) (h : incunablelaw28_FrameMakes.f k l0 = some r) :
    Calls Try.prog 3 #[.slice A0 l0.length c0] w fun e w' => e = .returned (.bool r) ∧ Below w.heap.size w w' := by
  unfold incunablelaw28_FrameMakes.f at h
  by_cases hok : okB l0 = true
  · rw [if_pos hok] at h
    injection h with h
    subst h
    have hB := okB_BI hok
    have hL := okB_len hok
    have hFB := frameI_BI hB
    have hFl := frameI_le l0
    have hN := frameI_le l0
    generalize hF : frameI l0 = F at hFB hFl
    obtain ⟨x, er⟩ := F
    dsimp only at hFB hFl
    clear hN
    have HL := Aside0.mk hL
    have HF := Aside0.mk hF
    have HX := Aside0.mk hFl
    clear hL hF hFl hok
    go_enter Try.func3, Try.ntmps3
    go_wp2_with (first | (go_at_call 10; refine (copy_n l0 A0 l0.length c0 _ rfl HL.out hr0 hc0).mono ?_; rintro e w1 ⟨v1, rfl, hR1, hb1⟩; obtain ⟨A1, c1, rfl⟩ := Kd.R_slice hR1) | (go_at_call 11; refine (Frame_n l0 hB A1 l0.length c1 _ rfl HL.out (RC hR1).2.1 (RC hR1).2.2).mono ?_; rintro e w2 ⟨v2, rfl, hR2, hb2⟩; rw [HF.out] at hR2; simp only [HF.out]; obtain ⟨A2, c2, rfl⟩ := Kd.R_slice hR2; have hR1' := Kd.R_below hR1 hb2; have hB2 := below_step hb1 hb2; have hr0' := Kd.C_below hr0 hB2) | (go_at_call 12; refine (rFrame_n l0 hB A0 l0.length c0 _ rfl HL.out hr0' hc0).mono ?_; rintro e w3 ⟨v3, rfl, hR3, hb3⟩; rw [HF.out] at hR3; simp only [HF.out]; obtain ⟨A3, c3, rfl⟩ := Kd.R_slice hR3; have hR1'' := Kd.R_below hR1' hb3; have hR2' := Kd.R_below hR2 hb3; have hB3 := below_step hB2 hb3; have hr0'' := Kd.C_below hr0' hb3) | (have g_ := hB4; clear g_; go_at_call 13; refine (eq_n l0 l0 A1 A0 l0.length c1 l0.length c0 _ rfl HL.out (RC hR1''').2.1 (RC hR1''').2.2 rfl hr0''' hc0).mono ?_; rintro e w5 ⟨he, hb5⟩; rw [decide_eq_true rfl] at he; subst he; have hB5 := below_step hB4 hb5) | (go_at_call 13; refine (eq_n x x A2 A3 x.length c2 x.length c3 _ rfl (by have := HX.out; omega) (RC hR2').2.1 (RC hR2').2.2 rfl (RC hR3).2.1 (RC hR3).2.2).mono ?_; rintro e w4 ⟨he, hb4⟩; rw [decide_eq_true rfl] at he; subst he; have hR1''' := Kd.R_below hR1'' hb4; have hr0''' := Kd.C_below hr0'' hb4; have hB4 := below_step hB3 hb4) | (go_at_call 14; refine (awake_calls _).mono ?_; rintro e w6 ⟨rfl, hb6⟩; have hB6 := below_step hB5 hb6))
    go_ret
    exact ⟨rfl, hB6⟩
  · rw [if_neg hok] at h
    cases h
end Go.Proofs.Ytkndghbognhocaa.X
