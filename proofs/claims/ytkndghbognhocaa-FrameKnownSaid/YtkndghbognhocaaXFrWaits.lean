/- FrameWaits. -/
import Derived.Test.YtkndghbognhocaaXFrSep2
import Derived.Test.YtkndghbognhocaaXx0
import Derived.Test.YtkndghbognhocaaXx6
namespace Go.Proofs.Ytkndghbognhocaa.Pure
set_option linter.unusedVariables false
open Go.RowKit Go.Proofs.Ytkndghbognhocaa.X Go.Proofs.YtkndghbognhocaaW.PrintWords Go.Proofs.YtkndghbognhocaaW.PrintLast Go.Proofs.YtkndghbognhocaaW.PrintMore
theorem bring_some (a n : Int) (h0 : -9223372036854775808 ≤ a) (h1 : a < 9223372036854775808) (hn : 0 < n) (hn1 : n < 9223372036854775808) : ∃ r, incunableref00_Bring.f a n = some r ∧ 0 ≤ r ∧ r < n := by
  unfold incunableref00_Bring.f
  rw [if_neg (by omega), if_neg (by omega)]
  have h2 : -n < Int.tmod a n ∧ Int.tmod a n < n := by
    have := Int.natAbs_tmod a n
    have h3 : Int.natAbs a % Int.natAbs n < Int.natAbs n := Nat.mod_lt _ (by omega)
    omega
  by_cases h : Int.tmod a n < 0
  · rw [if_pos h, w64 (by omega) (by omega)]
    exact ⟨_, rfl, by omega, by omega⟩
  · rw [if_neg h]
    exact ⟨_, rfl, by omega, by omega⟩
/-- Of a frame that is not there yet nothing is answered. -/
theorem next_prefix (x : List Int) (n : Nat) (t : Bool) (hx : x.length ≤ 300000) (h : n < (frameL x).length) : nextI ((frameL x).take n) t = (([], false, 0), (frameL x).take n, t) := by
  have hl : ((frameL x).take n).length = n := by rw [List.length_take]; omega
  by_cases h9 : n < 9
  · by_cases h2 : 2 ≤ n
    · refine next_part _ ?_ (by omega) t
      rw [List.take_take, Nat.min_eq_left h2]
      rfl
    · have : n = 0 ∨ n = 1 := by omega
      rcases this with rfl | rfl
      · exact next_nil t
      · show nextI [73] t = (([], false, 0), [73], t)
        cases t <;> decide +kernel
  · have e1 : (frameL x).take n = headL x.length ++ ((x ++ crc4 (headL x.length ++ x)).take (n - 9)) := by
      have := frameL_eq x []
      rw [List.append_nil, List.append_nil] at this
      rw [this, List.take_append, headL_length, List.take_of_length_le (by rw [headL_length]; omega)]
    have hb : beginsI ((frameL x).take n) = true := by rw [e1]; exact begins_headL _ _ hx
    have hsz : sizeN ((frameL x).take n) = x.length := by rw [e1]; exact size_headL _ _ hx
    rw [frameL_length] at h
    unfold nextI
    simp only [skip_begins hb, hsz]
    rw [if_neg (by omega), if_neg (by omega), if_pos (by omega)]
end Go.Proofs.Ytkndghbognhocaa.Pure
namespace Go.Proofs.Ytkndghbognhocaa.X
open Go.RowKit Go.Proofs.YtkndghbognhocaaW.PrintWords Go.Proofs.YtkndghbognhocaaW.PrintLast Go.Proofs.YtkndghbognhocaaW.PrintMore Go.Proofs.Ytkndghbognhocaa.Pure
attribute [local go_sem] max2_int min2_int max_two min_two max_three min_three max_four min_four
set_option linter.unusedVariables false
set_option linter.unusedSimpArgs false
def incunablelaw28_FrameWaits.f (k : Nat) (l0 : List Int) (a1 : Int) : Option Bool := if okB l0 = true ∧ -9223372036854775808 ≤ a1 ∧ a1 < 9223372036854775808 then some true else none
set_option maxHeartbeats 16000000 in
set_option maxRecDepth 100000 in
theorem incunablelaw28_FrameWaits.calls (k : Nat) (A0 : Option Addr) (c0 : Nat) (l0 : List Int) (a1 : Int) (r : Bool) (w : World) (hr0 : Kd.C (Kd.int .u8) w A0 l0.length l0) (hc0 : l0.length ≤ c0) (h : incunablelaw28_FrameWaits.f k l0 a1 = some r) :
    Calls Try.prog 8 #[.slice A0 l0.length c0, .int .i64 a1] w fun e w' => e = .returned (.bool r) ∧ Below w.heap.size w w' := by
  unfold incunablelaw28_FrameWaits.f at h
  by_cases hok : okB l0 = true ∧ -9223372036854775808 ≤ a1 ∧ a1 < 9223372036854775808
  · rw [if_pos hok] at h
    injection h with h
    subst h
    have hB0 := okB_BI hok.1
    obtain ⟨m, hm⟩ : ∃ m, m = min l0.length 500 := ⟨_, rfl⟩
    have hmin : (if (500 : Int) < (l0.length : Int) then 500 else (l0.length : Int)) = (m : Int) := by split <;> omega
    obtain ⟨hcut, hCt⟩ := CB_to A0 c0 l0 m (by omega) hc0
    have hxl : (l0.take m).length = m := by rw [List.length_take]; omega
    have hxB : BI (l0.take m) := BI_take hB0 m
    have hCx := hCt w hr0
    have hm5 : m ≤ 500 := by omega
    have hmc : m ≤ c0 := by omega
    generalize l0.take m = x at hxl hxB hCx
    have hfl : (frameL x).length = m + 13 := by rw [frameL_length, hxl]
    obtain ⟨n', hn', hn0, hn1⟩ := bring_some a1 ((m : Int) + 13) hok.2.1 hok.2.2 (by omega) (by omega)
    obtain ⟨n, rfl⟩ := Int.eq_ofNat_of_zero_le hn0
    have hnl : n < (frameL x).length := by omega
    have hfB := frameL_BI hxB
    have hnx1 := next_prefix x n false (by omega) hnl
    have hnx2 : nextI ((frameL x).take n ++ (frameL x).drop n) false = ((x, true, 0), [], false) := by
      rw [List.take_append_drop]
      have := next_frame x [] false (by omega)
      rwa [List.append_nil] at this
    have htl : ((frameL x).take n).length = n := by rw [List.length_take]; omega
    have hdl : ((frameL x).drop n).length = m + 13 - n := by rw [List.length_drop]; omega
    have hw13 : IntKind.i64.wrap ((m : Int) + 13) = (m : Int) + 13 := by simp only [i64_w]; unfold wrap64; omega
    have hne : (((m + 13 : Nat) : Int) != (m : Int) + 13) = false := bne_eq_false_iff_eq.mpr (by omega)
    have hcast : ((m + 13 : Nat) : Int) = (m : Int) + 13 := by omega
    have HM := Aside0.mk hm5
    have HMC := Aside0.mk hmc
    have HN := Aside0.mk hnl
    have HX := Aside0.mk hxl
    have HF := Aside0.mk hfl
    have HT := Aside0.mk htl
    have HD := Aside0.mk hdl
    have H1 := Aside0.mk hnx1
    have H2 := Aside0.mk hnx2
    have HMM := Aside0.mk hm
    have HN1 := Aside0.mk hn1
    clear hm hok hm5 hmc hnl hxl hfl htl hdl hnx1 hnx2 hn0 hn1 hCt
    go_enter Try.func8, Try.ntmps8
    go_upto_region 7 with (first | (go_at_call 11; refine (Frame_okn x hxB A0 m c0 _ HX.out hCx HMC.out (by have := HM.out; omega)).mono ?_; rintro e w1 ⟨v1, rfl, hR1, hb1⟩; obtain ⟨A1, c1, e1⟩ := Kd.R_slice hR1; rw [HF.out] at e1; subst e1; have s1 := Sep.addB (w := w) (Sep.nil w) (Below.refl _ _) hb1 hR1; have hcp1 := (RC hR1).2.2) | (go_at_call 19; refine (incunableref00_Bring.calls a1 _ _ _ (by first | exact hn' | (rw [hcast]; exact hn'))).mono ?_; rintro e w2 ⟨rfl, hd2⟩; have s2 := s1.below hd2.below; have hb2 := below_step hb1 hd2.below) | (go_at_call 15; refine (New_rf _).mono ?_; rintro e w3 ⟨g, rfl, hr3, hb3⟩; have s3 := s2.new (base := w.heap.size) hb2.size hr3 hb3; have hB3 := below_step hb2 hb3; clear s1 s2 hr3))
    obtain ⟨hcutT, hCT⟩ := CBn_to A1 c1 (frameL x) (m + 13) n HF.out (by have := HN.out; have := HF.out; omega) hcp1
    obtain ⟨A8, c8, hcutD, hCD, hc8⟩ := CBn_from A1 c1 (frameL x) (m + 13) n HF.out (by have := HN.out; have := HF.out; omega) hcp1
    have HND := Aside0.mk (show n ≤ c1 from by have := HN.out; have := HF.out; omega)
    have HC8 := Aside0.mk hc8
    clear hc8
    go_upto_region 9 with (first | (go_at_call 17; refine (Sep.feed (w := w) s3 1 g [] false rfl hB3 ((frameL x).take n) (by have := HT.out; have := HN.out; have := HF.out; have := HM.out; simp only [List.length_nil]; omega) A1 n c1 HT.out (hCT _ (s3.bytes 0 rfl).2.1) HND.out).mono ?_; rintro e w4 ⟨rfl, s4, hB4, _⟩; rw [List.nil_append] at s4) | (go_at_call 20; refine (Sep.next (w := w) s4 1 g ((frameL x).take n) false rfl hB4 (BI_take hfB n) (by have := HT.out; have := HN.out; have := HF.out; have := HM.out; omega) _ H1.out).mono ?_; rintro e w5 ⟨v5, rfl, ⟨A5, c5, rfl⟩, s5, hB5, _⟩))
    have hmn : min n (frameL x).length = n := Nat.min_eq_left (Nat.le_of_lt HN.out)
    go_upto_region 11 with (first | (go_at_call 22; refine (Sep.waits (w := w) s5 1 g _ _ rfl).mono ?_; rintro e w5 ⟨rfl, rfl⟩) | (go_at_call 17; refine (Sep.feed (w := w) s5 1 g ((frameL x).take n) false rfl hB5 ((frameL x).drop n) (by have := HT.out; have := HD.out; have := HN.out; have := HF.out; have := HM.out; omega) A8 _ c8 HD.out (hCD _ (s5.bytes 0 rfl).2.1) HC8.out).mono ?_; rintro e w6 ⟨rfl, s6, hB6, _⟩))
    go_wp2_with (first | (go_at_call 20; refine (Sep.next (w := w) s6 1 g _ false rfl hB6 (by rw [List.take_append_drop]; exact hfB) (by rw [List.take_append_drop]; have := HF.out; have := HM.out; omega) _ H2.out).mono ?_; rintro e w7 ⟨v7, rfl, ⟨A7, c7, rfl⟩, s7, hB7, _⟩) | (go_at_call 13; refine (eq_n x x A7 A0 _ c7 m c0 _ rfl (by have := HX.out; have := HM.out; omega) (s7.bytes 3 rfl).2.1 (s7.bytes 3 rfl).2.2 HX.out (Kd.C_belowB hCx hB7 rfl) HMC.out).mono ?_; rintro e w8 ⟨he, hb8⟩; rw [decide_eq_true rfl] at he; subst he; have s8 := s7.below hb8; have hB8 := below_step hB7 hb8) | (go_at_call 22; refine (Sep.waits (w := w) s8 1 g _ _ rfl).mono ?_; rintro e w8 ⟨rfl, rfl⟩) | (go_at_call 14; refine (awake_calls _).mono ?_; rintro e w9 ⟨rfl, hb9⟩; have hB9 := below_step hB8 hb9))
    go_ret
    exact ⟨rfl, hB9⟩
  · rw [if_neg hok] at h
    cases h
end Go.Proofs.Ytkndghbognhocaa.X
