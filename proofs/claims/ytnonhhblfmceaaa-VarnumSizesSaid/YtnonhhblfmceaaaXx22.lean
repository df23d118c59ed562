-- Laid by xprint.py, a program of this session over the kit's print; checked by Lean alone.
import Derived.Test.YtnonhhblfmceaaaXx0
import Derived.Test.YtnonhhblfmceaaaXx1
import Derived.Test.YtnonhhblfmceaaaXx13
import Derived.Test.YtnonhhblfmceaaaXx18
namespace Go.Proofs.Ytnonhhblfmceaaa.X
open Go.RowKit Go.Proofs.YtnonhhblfmceaaaW.PrintWords Go.Proofs.YtnonhhblfmceaaaW.PrintLast Go.Proofs.YtnonhhblfmceaaaW.PrintMore
attribute [local go_sem] max2_int min2_int max_two min_two max_three min_three max_four min_four   -- for this text's walks alone
set_option linter.unusedVariables false
set_option linter.unusedSimpArgs false

/-! ### incunablelaw01_VarnumSizes: function 8 -/
def incunablelaw01_VarnumSizes.l0 : Nat → Int → Int → List Int → Int → List Int → Int → Int → Int → Option (Bool)
  | 0, _, _, _, _, _, _, _, _ => none
  | k + 1, x0, x1, x5, x6, x7, x8, x9, x10 => (incunablelaw01_number.f x0).bind fun t452 => (if x10 < t452 then (incunablelaw01_VarnumSizes.l0 k x0 x1 x5 x6 x7 x8 (wrap64 (x9 + 1)) (wrap64 ((wrap64 (x10 * 128)) + 127))) else (if x6 = 0 then (if x8 = 0 then (if (x5.length : Int) ≤ (x7.length : Int) then (some ((x5.length : Int) == x9)) else ((incunablelaw01_number.f x0).bind fun t453 => ((incunablelaw01_number.f x1).bind fun t454 => (if t453 > t454 then (some ((x5.length : Int) == x9)) else (none))))) else (none)) else (none)))
def incunablelaw01_VarnumSizes.f (k : Nat) (a0 : Int) (a1 : Int) : Option (Bool) := (incunablelaw01_works.f k).bind fun t441 => (if t441 = true then ((incunablelaw01_number.f a0).bind fun t442 => ((varnum_Num.f k t442).bind fun bt443 => ((incunablelaw01_number.f a1).bind fun t447 => ((varnum_Num.f k t447).bind fun bt448 => (incunablelaw01_VarnumSizes.l0 k a0 a1 bt443.1 bt443.2 bt448.1 bt448.2 1 127))))) else (none))
theorem incunablelaw01_VarnumSizes.mono_l : ∀ k, (∀ y0 y1 y2 y3 y4 y5 y6 y7, LeO (incunablelaw01_VarnumSizes.l0 k y0 y1 y2 y3 y4 y5 y6 y7) (incunablelaw01_VarnumSizes.l0 (k + 1) y0 y1 y2 y3 y4 y5 y6 y7))
  | 0 => fun _ _ _ _ _ _ _ _ r h => by simp [incunablelaw01_VarnumSizes.l0] at h
  | k + 1 => by
    have ih0 := incunablelaw01_VarnumSizes.mono_l k
    · intro y0 y1 y2 y3 y4 y5 y6 y7
      unfold incunablelaw01_VarnumSizes.l0
      repeat' first
      | (with_reducible exact ih0 _ _ _ _ _ _ _ _)
      | (with_reducible exact incunablelaw01_works.mono _)
      | (with_reducible exact varnum_Num.mono _ _)
      | (with_reducible exact LeO.refl _)
      | (with_reducible exact LeO.none _)
      | (with_reducible refine LeO.ite ?_ ?_)
      | (with_reducible refine LeO.bind ?_ (fun _ => ?_))
      | exact ih0 _ _ _ _ _ _ _ _
      | exact incunablelaw01_works.mono _
      | exact varnum_Num.mono _ _
      | exact LeO.none _
      | refine LeO.ite ?_ ?_
      | refine LeO.bind ?_ (fun _ => ?_)
theorem incunablelaw01_VarnumSizes.mono : ∀ a0 a1 k, LeO (incunablelaw01_VarnumSizes.f k a0 a1) (incunablelaw01_VarnumSizes.f (k + 1) a0 a1) := by
  intro a0 a1 k
  have ih0 := incunablelaw01_VarnumSizes.mono_l k
  unfold incunablelaw01_VarnumSizes.f
  repeat' first
      | (with_reducible exact ih0 _ _ _ _ _ _ _ _)
      | (with_reducible exact incunablelaw01_works.mono _)
      | (with_reducible exact varnum_Num.mono _ _)
      | (with_reducible exact LeO.refl _)
      | (with_reducible exact LeO.none _)
      | (with_reducible refine LeO.ite ?_ ?_)
      | (with_reducible refine LeO.bind ?_ (fun _ => ?_))
      | exact ih0 _ _ _ _ _ _ _ _
      | exact incunablelaw01_works.mono _
      | exact varnum_Num.mono _ _
      | exact LeO.none _
      | refine LeO.ite ?_ ?_
      | refine LeO.bind ?_ (fun _ => ?_)
set_option maxHeartbeats 8000000 in
set_option maxRecDepth 100000 in
theorem incunablelaw01_VarnumSizes.calls (k : Nat) (a0 : Int) (a1 : Int) (r : Bool) (w : World) (h : incunablelaw01_VarnumSizes.f k a0 a1 = some r) :
    Calls Try.prog 8 #[.int .i64 a0, .int .i64 a1] w fun e w' => e = .returned (.bool r) ∧ Below w.heap.size w w' := by
  have HB := Aside0.mk (Below.refl w.heap.size w)
  have H : ((incunablelaw01_works.f k).bind fun t441 => (if t441 = true then ((incunablelaw01_number.f a0).bind fun t442 => ((varnum_Num.f k t442).bind fun bt443 => ((incunablelaw01_number.f a1).bind fun t447 => ((varnum_Num.f k t447).bind fun bt448 => (incunablelaw01_VarnumSizes.l0 k a0 a1 bt443.1 bt443.2 bt448.1 bt448.2 1 127))))) else (none))) = some r := h
  clear h
  replace H := Option.bind_eq_some_iff.mp H
  obtain ⟨t441, A30, H⟩ := H
  replace H : (if t441 = true then ((incunablelaw01_number.f a0).bind fun t442 => ((varnum_Num.f k t442).bind fun bt443 => ((incunablelaw01_number.f a1).bind fun t447 => ((varnum_Num.f k t447).bind fun bt448 => (incunablelaw01_VarnumSizes.l0 k a0 a1 bt443.1 bt443.2 bt448.1 bt448.2 1 127))))) else (none)) = some r := H
  have A3 := Aside0.mk A30
  clear A30
  by_cases c4 : t441 = true
  · subst c4
    have H1 : ((incunablelaw01_number.f a0).bind fun t442 => ((varnum_Num.f k t442).bind fun bt443 => ((incunablelaw01_number.f a1).bind fun t447 => ((varnum_Num.f k t447).bind fun bt448 => (incunablelaw01_VarnumSizes.l0 k a0 a1 bt443.1 bt443.2 bt448.1 bt448.2 1 127))))) = some r := by rw [if_pos rfl] at H; exact H
    clear H
    have H := H1
    clear H1
    replace H := Option.bind_eq_some_iff.mp H
    obtain ⟨t442, A50, H⟩ := H
    replace H : ((varnum_Num.f k t442).bind fun bt443 => ((incunablelaw01_number.f a1).bind fun t447 => ((varnum_Num.f k t447).bind fun bt448 => (incunablelaw01_VarnumSizes.l0 k a0 a1 bt443.1 bt443.2 bt448.1 bt448.2 1 127)))) = some r := H
    have A5 := Aside0.mk A50
    clear A50
    replace H := Option.bind_eq_some_iff.mp H
    obtain ⟨⟨t443, t444⟩, A60, H⟩ := H
    replace H : ((incunablelaw01_number.f a1).bind fun t447 => ((varnum_Num.f k t447).bind fun bt448 => (incunablelaw01_VarnumSizes.l0 k a0 a1 t443 t444 bt448.1 bt448.2 1 127))) = some r := H
    have A6 := Aside0.mk A60
    clear A60
    replace H := Option.bind_eq_some_iff.mp H
    obtain ⟨t447, A70, H⟩ := H
    replace H : ((varnum_Num.f k t447).bind fun bt448 => (incunablelaw01_VarnumSizes.l0 k a0 a1 t443 t444 bt448.1 bt448.2 1 127)) = some r := H
    have A7 := Aside0.mk A70
    clear A70
    replace H := Option.bind_eq_some_iff.mp H
    obtain ⟨⟨t448, t449⟩, A80, H⟩ := H
    replace H : (incunablelaw01_VarnumSizes.l0 k a0 a1 t443 t444 t448 t449 1 127) = some r := H
    have A8 := Aside0.mk A80
    clear A80
    have H' := Aside0.mk H
    clear H
    go_enter Try.func8, Try.ntmps8
    go_wp2_with (first | ((with_reducible refine gate_callee (f := 19) rfl ?_); refine goesL_ (some 11) rfl rfl Try.func19 (by kernel_rfl) rfl #[] rfl (by (try simp only [List.map_toArray, List.map_cons, List.map_nil]); first | done | rfl | (simp only [List.length_drop, List.length_take]; rfl)) ?_; (with_reducible refine (incunablelaw01_works.calls k  true _ A3.out).mono ?_); rintro e w9 ⟨rfl, hb⟩; refine ⟨_, rfl, ?_⟩; have n0_ := Aside0.mk (below_step (by repeat (first | (with_reducible first | exact HB.out | apply below_alloc | apply pw_below_drewN | apply below_drew1) | exact HB.out)) hb); clear HB; have HB := n0_; clear n0_; (try clear hb); (try clear hb2); (try clear hk); (try clear hi)) | ((with_reducible refine gate_callee (f := 24) rfl ?_); refine goesL_ (some 15) rfl rfl Try.func24 (by kernel_rfl) rfl #[.int .i64 a0] rfl (by (try simp only [List.map_toArray, List.map_cons, List.map_nil]); first | done | rfl | (simp only [List.length_drop, List.length_take]; rfl)) ?_; (with_reducible refine (incunablelaw01_number.calls a0 t442 _ A5.out).mono ?_); rintro e w' ⟨rfl, ⟨nd, rfl⟩⟩; refine ⟨_, rfl, ?_⟩) | ((with_reducible refine gate_callee (f := 12) rfl ?_); refine goesL_ (some 16) rfl rfl Try.func12 (by kernel_rfl) rfl #[.int .i64 t442] rfl (by (try simp only [List.map_toArray, List.map_cons, List.map_nil]); first | done | rfl | (simp only [List.length_drop, List.length_take]; rfl)) ?_; (with_reducible refine (varnum_Num.calls k t442 t443 t444 _ A6.out).mono ?_); rintro e w10 ⟨v445, rfl, ho0, hb⟩; refine ⟨_, rfl, ?_⟩; have n0_ := Aside0.mk (Kd.R_lower ho0 (below_size (by repeat (first | (with_reducible first | exact HB.out | apply below_alloc | apply pw_below_drewN | apply below_drew1) | exact HB.out)))); have n1_ := Aside0.mk (below_step (by repeat (first | (with_reducible first | exact HB.out | apply below_alloc | apply pw_below_drewN | apply below_drew1) | exact HB.out)) hb); clear HB; have HO446 := n0_; have HB := n1_; clear n0_ n1_; (try clear hb); (try clear hb2); (try clear hk); (try clear hi); (try clear ho0)) | ((with_reducible refine gate_callee (f := 24) rfl ?_); refine goesL_ (some 21) rfl rfl Try.func24 (by kernel_rfl) rfl #[.int .i64 a1] rfl (by (try simp only [List.map_toArray, List.map_cons, List.map_nil]); first | done | rfl | (simp only [List.length_drop, List.length_take]; rfl)) ?_; (with_reducible refine (incunablelaw01_number.calls a1 t447 _ A7.out).mono ?_); rintro e w' ⟨rfl, ⟨nd, rfl⟩⟩; refine ⟨_, rfl, ?_⟩) | ((with_reducible refine gate_callee (f := 12) rfl ?_); refine goesL_ (some 22) rfl rfl Try.func12 (by kernel_rfl) rfl #[.int .i64 t447] rfl (by (try simp only [List.map_toArray, List.map_cons, List.map_nil]); first | done | rfl | (simp only [List.length_drop, List.length_take]; rfl)) ?_; (with_reducible refine (varnum_Num.calls k t447 t448 t449 _ A8.out).mono ?_); rintro e w11 ⟨v450, rfl, ho0, hb⟩; refine ⟨_, rfl, ?_⟩; have n0_ := Aside0.mk (Kd.R_elder' (by (with_reducible repeat (first | apply Kd.R_alloc | apply Kd.R_drewN | apply Kd.R_drew)); exact HO446.out) (Kd.R_base ho0) hb); have n1_ := Aside0.mk (Kd.R_lower (Kd.R_new' ho0 (Kd.R_lt (by (with_reducible repeat (first | apply Kd.R_alloc | apply Kd.R_drewN | apply Kd.R_drew)); exact HO446.out))) (below_size (by repeat (first | (with_reducible first | exact HB.out | apply below_alloc | apply pw_below_drewN | apply below_drew1) | exact HB.out)))); have n2_ := Aside0.mk (below_step (by repeat (first | (with_reducible first | exact HB.out | apply below_alloc | apply pw_below_drewN | apply below_drew1) | exact HB.out)) hb); clear HO446; clear HB; have HO446 := n0_; have HO451 := n1_; have HB := n2_; clear n0_ n1_ n2_; (try clear hb); (try clear hb2); (try clear hk); (try clear hi); (try clear ho0)))
    go_loopg [9, 10] k (fun kq v9 v10 w' => ∃ (x9_1 : Int) (x10_1 : Int), v9 = .int .i64 x9_1 ∧ v10 = .int .i64 x10_1 ∧ Aside0 (incunablelaw01_VarnumSizes.l0 kq a0 a1 t443 t444 t448 t449 x9_1 x10_1 = some r) ∧ Aside0 (kq ≤ k) ∧ Aside0 (Kd.R (Kd.int .u8) 5 w' w.heap.size (fun k_ => some k_ ≠ (v450 : Value).ownBlock) v445 t443) ∧ Aside0 (Kd.R (Kd.int .u8) 5 w' w.heap.size (fun k_ => some k_ ≠ (v445 : Value).ownBlock) v450 t448) ∧ Aside0 (Below w.heap.size w w'))
    case atStart => exact ⟨(1), (127), (by first | rfl | (simp; done) | (simp [*]; done)), (by first | rfl | (simp; done) | (simp [*]; done)), H', ⟨Nat.le_refl _⟩, ⟨by (with_reducible repeat (first | apply Kd.R_alloc | apply Kd.R_drewN | apply Kd.R_drew)); exact Kd.R_mono HO446.out (fun _ hk => hk.2)⟩, ⟨by (with_reducible repeat (first | apply Kd.R_alloc | apply Kd.R_drewN | apply Kd.R_drew)); exact Kd.R_mono HO451.out (fun _ hk => hk.2)⟩, ⟨by repeat (first | (with_reducible first | exact HB.out | apply below_alloc | apply pw_below_drewN | apply below_drew1) | exact HB.out)⟩⟩
    case round =>
      clear H'
      try clear c1
      try clear c2
      try clear p2
      try clear c4
      try clear c8
      obtain ⟨x9_1, x10_1, rfl, rfl, HA, HK1, HO_5, HO_7, HB⟩ := hrel
      cases gk with
      | zero => exact absurd HA.out (by simp [incunablelaw01_VarnumSizes.l0])
      | succ k1 =>
        have H := HA.out
        clear HA
        simp only [incunablelaw01_VarnumSizes.l0] at H
        replace H := Option.bind_eq_some_iff.mp H
        obtain ⟨t452, A120, H⟩ := H
        replace H : (if x10_1 < t452 then (incunablelaw01_VarnumSizes.l0 k1 a0 a1 t443 t444 t448 t449 (wrap64 (x9_1 + 1)) (wrap64 ((wrap64 (x10_1 * 128)) + 127))) else (if t444 = 0 then (if t449 = 0 then (if (t443.length : Int) ≤ (t448.length : Int) then (some ((t443.length : Int) == x9_1)) else ((incunablelaw01_number.f a0).bind fun t453 => ((incunablelaw01_number.f a1).bind fun t454 => (if t453 > t454 then (some ((t443.length : Int) == x9_1)) else (none))))) else (none)) else (none))) = some r := H
        have A12 := Aside0.mk A120
        clear A120
        by_cases c13 : x10_1 < t452
        · rw [if_pos c13] at H
          have c13b0 : decide (x10_1 < t452) = true := decide_eq_true c13
          clear c13
          have H' := Aside0.mk H
          clear H
          go_wp2_with (first | ((with_reducible refine gate_callee (f := 24) rfl ?_); refine goesL_ (some 27) rfl rfl Try.func24 (by kernel_rfl) rfl #[.int .i64 a0] rfl (by (try simp only [List.map_toArray, List.map_cons, List.map_nil]); first | done | rfl | (simp only [List.length_drop, List.length_take]; rfl)) ?_; (with_reducible refine (incunablelaw01_number.calls a0 t452 _ A12.out).mono ?_); rintro e w' ⟨rfl, ⟨nd, rfl⟩⟩; refine ⟨_, rfl, ?_⟩))
          go_roundg k1
          case measure => have := HK1.out; omega
          case rel => exact ⟨(wrap64 (x9_1 + 1)), (wrap64 ((wrap64 (x10_1 * 128)) + 127)), (by first | rfl | (simp; done) | (simp [*]; done)), (by first | rfl | (simp; done) | (simp [*]; done)), H', ⟨by have := HK1.out; omega⟩, ⟨by (with_reducible repeat (first | apply Kd.R_alloc | apply Kd.R_drewN | apply Kd.R_drew)); exact HO_5.out⟩, ⟨by (with_reducible repeat (first | apply Kd.R_alloc | apply Kd.R_drewN | apply Kd.R_drew)); exact HO_7.out⟩, ⟨by repeat (first | (with_reducible first | exact HB.out | apply below_alloc | apply pw_below_drewN | apply below_drew1) | exact HB.out)⟩⟩
        · rw [if_neg c13] at H
          have c13b0 : decide (x10_1 < t452) = false := decide_eq_false c13
          clear c13
          by_cases c14 : t444 = 0
          · rw [if_pos c14] at H
            have c14b0 : (t444 == 0) = true := beq_iff_eq.mpr c14
            have c14b1 : (t444 != 0) = false := bne_eq_false_iff_eq.mpr c14
            clear c14
            by_cases c15 : t449 = 0
            · rw [if_pos c15] at H
              have c15b0 : (t449 == 0) = true := beq_iff_eq.mpr c15
              have c15b1 : (t449 != 0) = false := bne_eq_false_iff_eq.mpr c15
              clear c15
              by_cases c16 : (t443.length : Int) ≤ (t448.length : Int)
              · rw [if_pos c16] at H
                have c16b0 : decide ((t443.length : Int) ≤ (t448.length : Int)) = true := decide_eq_true c16
                have c16b1 : decide (t443.length ≤ t448.length) = true := decide_eq_true (Int.ofNat_le.mp c16)
                clear c16
                obtain rfl := Option.some.inj H
                go_wp2_with (first | ((with_reducible refine gate_callee (f := 24) rfl ?_); refine goesL_ (some 27) rfl rfl Try.func24 (by kernel_rfl) rfl #[.int .i64 a0] rfl (by (try simp only [List.map_toArray, List.map_cons, List.map_nil]); first | done | rfl | (simp only [List.length_drop, List.length_take]; rfl)) ?_; (with_reducible refine (incunablelaw01_number.calls a0 t452 _ A12.out).mono ?_); rintro e w' ⟨rfl, ⟨nd, rfl⟩⟩; refine ⟨_, rfl, ?_⟩; obtain ⟨Ao17, co17, eo17⟩ := Kd.R_slice HO_5.out; subst eo17; obtain ⟨Ao18, co18, eo18⟩ := Kd.R_slice HO_7.out; subst eo18))
                go_ret
                exact ⟨by first | rfl | (simp [errW_none, errW_some] <;> rfl) | (simp [*, errW_none, errW_some] <;> rfl), by repeat (first | (with_reducible first | exact HB.out | apply below_alloc | apply pw_below_drewN | apply below_drew1) | exact HB.out)⟩
              · rw [if_neg c16] at H
                have c16b0 : decide ((t443.length : Int) ≤ (t448.length : Int)) = false := decide_eq_false c16
                have c16b1 : decide (t443.length ≤ t448.length) = false := decide_eq_false (fun h => c16 (Int.ofNat_le.mpr h))
                clear c16
                replace H := Option.bind_eq_some_iff.mp H
                obtain ⟨t453, A190, H⟩ := H
                replace H : ((incunablelaw01_number.f a1).bind fun t454 => (if t453 > t454 then (some ((t443.length : Int) == x9_1)) else (none))) = some r := H
                have A19 := Aside0.mk A190
                clear A190
                replace H := Option.bind_eq_some_iff.mp H
                obtain ⟨t454, A200, H⟩ := H
                replace H : (if t453 > t454 then (some ((t443.length : Int) == x9_1)) else (none)) = some r := H
                have A20 := Aside0.mk A200
                clear A200
                by_cases c21 : t453 > t454
                · rw [if_pos c21] at H
                  have c21b0 : decide (t454 < t453) = true := decide_eq_true c21
                  clear c21
                  obtain rfl := Option.some.inj H
                  go_wp2_with (first | ((with_reducible refine gate_callee (f := 24) rfl ?_); refine goesL_ (some 27) rfl rfl Try.func24 (by kernel_rfl) rfl #[.int .i64 a0] rfl (by (try simp only [List.map_toArray, List.map_cons, List.map_nil]); first | done | rfl | (simp only [List.length_drop, List.length_take]; rfl)) ?_; (with_reducible refine (incunablelaw01_number.calls a0 t452 _ A12.out).mono ?_); rintro e w' ⟨rfl, ⟨nd, rfl⟩⟩; refine ⟨_, rfl, ?_⟩; obtain ⟨Ao22, co22, eo22⟩ := Kd.R_slice HO_5.out; subst eo22; obtain ⟨Ao23, co23, eo23⟩ := Kd.R_slice HO_7.out; subst eo23) | (go_at_call 24; (with_reducible refine (incunablelaw01_number.calls a0 t453 _ A19.out).mono ?_); rintro e w' ⟨rfl, ⟨nd, rfl⟩⟩) | (go_at_call 24; (with_reducible refine (incunablelaw01_number.calls a1 t454 _ A20.out).mono ?_); rintro e w' ⟨rfl, ⟨nd, rfl⟩⟩))
                  go_ret
                  exact ⟨by first | rfl | (simp [errW_none, errW_some] <;> rfl) | (simp [*, errW_none, errW_some] <;> rfl), by repeat (first | (with_reducible first | exact HB.out | apply below_alloc | apply pw_below_drewN | apply below_drew1) | exact HB.out)⟩
                · rw [if_neg c21] at H
                  exact absurd H (by simp)
            · rw [if_neg c15] at H
              exact absurd H (by simp)
          · rw [if_neg c14] at H
            exact absurd H (by simp)
  · replace c4 := Bool.eq_false_iff.mpr c4
    subst c4
    have H1 : (none) = some r := by rw [if_neg (show ¬ (false = true) by decide)] at H; exact H
    clear H
    have H := H1
    clear H1
    exact absurd H (by simp)

/-- THE ONE PURE STATEMENT of incunablelaw01_VarnumSizes: yours. -/
def incunablelaw01_VarnumSizes.Pure : Prop := ∀ (a0 : Int) (a1 : Int), (Lit.int .i64 a0).wf = true → (Lit.int .i64 a1).wf = true → ∃ k, incunablelaw01_VarnumSizes.f k a0 a1 = some true
theorem incunablelaw01_VarnumSizes.walk (P : incunablelaw01_VarnumSizes.Pure) (a0 : Int) (a1 : Int) (w : World) (w0 : (Lit.int .i64 a0).wf = true) (w1 : (Lit.int .i64 a1).wf = true) :
    Calls Try.prog 8 #[.int .i64 a0, .int .i64 a1] w fun e w' => e = .returned (.bool true) ∧ Below w.heap.size w w' := by
  obtain ⟨k, h⟩ := P a0 a1 w0 w1
  refine (incunablelaw01_VarnumSizes.calls k a0 a1 true w h).mono ?_
  rintro e w' ⟨rfl, hd⟩
  exact ⟨rfl, hd⟩

end Go.Proofs.Ytnonhhblfmceaaa.X
