-- Laid by xprint.py, a program of this session over the kit's print; checked by Lean alone.
import Derived.Test.YtnonhhblfmceaaaXx0
import Derived.Test.YtnonhhblfmceaaaXx1
import Derived.Test.YtnonhhblfmceaaaXx3
import Derived.Test.YtnonhhblfmceaaaXx5
import Derived.Test.YtnonhhblfmceaaaXx7
import Derived.Test.YtnonhhblfmceaaaXx9
import Derived.Test.YtnonhhblfmceaaaXx10
import Derived.Test.YtnonhhblfmceaaaXx13
import Derived.Test.YtnonhhblfmceaaaXx18
namespace Go.Proofs.Ytnonhhblfmceaaa.X
open Go.RowKit Go.Proofs.YtnonhhblfmceaaaW.PrintWords Go.Proofs.YtnonhhblfmceaaaW.PrintLast Go.Proofs.YtnonhhblfmceaaaW.PrintMore
attribute [local go_sem] max2_int min2_int max_two min_two max_three min_three max_four min_four   -- for this text's walks alone
set_option linter.unusedVariables false
set_option linter.unusedSimpArgs false

/-! ### incunablelaw01_VarnumBack: function 5 -/
def incunablelaw01_VarnumBack.f (k : Nat) (a0 : Int) (l1 : List Int) (l2 : List Int) : Option (Bool) := (incunablelaw01_works.f k).bind fun t344 => (if t344 = true then (if 0 ≤ (mn (l1.length : Int) 5000) then (if (mn (l1.length : Int) 5000) ≤ (l1.length : Int) then ((incunablelaw01_number.f a0).bind fun t346 => ((varnum_Num.f k t346).bind fun bt347 => ((varnum_Text.f k (l1.take ((mn (l1.length : Int) 5000) : Int).toNat) 5000).bind fun bt351 => ((incunableref00_CopyBytes.f bt347.1).bind fun t355 => (if t355.length + bt351.1.length < 225179981368000 then ((some (t355 ++ bt351.1 : List Int)).bind fun y358 => (if y358.length + l2.length < 225179981368000 then ((varnum_TakeNum.f k (y358 ++ l2)).bind fun bt364 => ((varnum_TakeText.f k bt364.2.1 5000).bind fun bt369 => (if bt347.2 = 0 then (if bt351.2 = 0 then (if bt364.2.2 = 0 then ((incunablelaw01_number.f a0).bind fun t376 => (if bt364.1 = t376 then (if bt369.2.2 = 0 then ((incunableref00_EqBytes.f k bt369.1 (l1.take ((mn (l1.length : Int) 5000) : Int).toNat)).bind fun t377 => (if t377 = true then ((incunableref00_EqBytes.f k bt369.2.1 l2).bind fun t378 => (some t378)) else (none))) else (none)) else (none))) else (none)) else (none)) else (none)))) else (none))) else (none)))))) else (none)) else (none)) else (none))
theorem incunablelaw01_VarnumBack.mono : ∀ a0 a1 a2 k, LeO (incunablelaw01_VarnumBack.f k a0 a1 a2) (incunablelaw01_VarnumBack.f (k + 1) a0 a1 a2) := by
  intro a0 a1 a2 k
  unfold incunablelaw01_VarnumBack.f
  repeat' first
      | (with_reducible exact incunablelaw01_works.mono _)
      | (with_reducible exact incunableref00_EqBytes.mono _ _ _)
      | (with_reducible exact varnum_Num.mono _ _)
      | (with_reducible exact varnum_TakeNum.mono _ _)
      | (with_reducible exact varnum_TakeText.mono _ _ _)
      | (with_reducible exact varnum_Text.mono _ _ _)
      | (with_reducible exact LeO.refl _)
      | (with_reducible exact LeO.none _)
      | (with_reducible refine LeO.ite ?_ ?_)
      | (with_reducible refine LeO.bind ?_ (fun _ => ?_))
      | exact incunablelaw01_works.mono _
      | exact incunableref00_EqBytes.mono _ _ _
      | exact varnum_Num.mono _ _
      | exact varnum_TakeNum.mono _ _
      | exact varnum_TakeText.mono _ _ _
      | exact varnum_Text.mono _ _ _
      | exact LeO.none _
      | refine LeO.ite ?_ ?_
      | refine LeO.bind ?_ (fun _ => ?_)
set_option maxHeartbeats 8000000 in
set_option maxRecDepth 100000 in
theorem incunablelaw01_VarnumBack.calls (k : Nat) (a0 : Int) (A1 : Option Addr) (c1 : Nat) (l1 : List Int) (A2 : Option Addr) (c2 : Nat) (l2 : List Int) (r : Bool) (w : World) (hr1 : Kd.C (Kd.int .u8) w A1 l1.length l1) (hc1 : l1.length ≤ c1) (hr2 : Kd.C (Kd.int .u8) w A2 l2.length l2) (hc2 : l2.length ≤ c2) (h : incunablelaw01_VarnumBack.f k a0 l1 l2 = some r) :
    Calls Try.prog 5 #[.int .i64 a0, .slice A1 l1.length c1, .slice A2 l2.length c2] w fun e w' => e = .returned (.bool r) ∧ Below w.heap.size w w' := by
  have HR1 := Aside0.mk hr1
  have HC1 := Aside0.mk hc1
  clear hr1 hc1
  have HR2 := Aside0.mk hr2
  have HC2 := Aside0.mk hc2
  clear hr2 hc2
  have HB := Aside0.mk (Below.refl w.heap.size w)
  have H : ((incunablelaw01_works.f k).bind fun t344 => (if t344 = true then (if 0 ≤ (mn (l1.length : Int) 5000) then (if (mn (l1.length : Int) 5000) ≤ (l1.length : Int) then ((incunablelaw01_number.f a0).bind fun t346 => ((varnum_Num.f k t346).bind fun bt347 => ((varnum_Text.f k (l1.take ((mn (l1.length : Int) 5000) : Int).toNat) 5000).bind fun bt351 => ((incunableref00_CopyBytes.f bt347.1).bind fun t355 => (if t355.length + bt351.1.length < 225179981368000 then ((some (t355 ++ bt351.1 : List Int)).bind fun y358 => (if y358.length + l2.length < 225179981368000 then ((varnum_TakeNum.f k (y358 ++ l2)).bind fun bt364 => ((varnum_TakeText.f k bt364.2.1 5000).bind fun bt369 => (if bt347.2 = 0 then (if bt351.2 = 0 then (if bt364.2.2 = 0 then ((incunablelaw01_number.f a0).bind fun t376 => (if bt364.1 = t376 then (if bt369.2.2 = 0 then ((incunableref00_EqBytes.f k bt369.1 (l1.take ((mn (l1.length : Int) 5000) : Int).toNat)).bind fun t377 => (if t377 = true then ((incunableref00_EqBytes.f k bt369.2.1 l2).bind fun t378 => (some t378)) else (none))) else (none)) else (none))) else (none)) else (none)) else (none)))) else (none))) else (none)))))) else (none)) else (none)) else (none))) = some r := h
  clear h
  replace H := Option.bind_eq_some_iff.mp H
  obtain ⟨t344, A40, H⟩ := H
  replace H : (if t344 = true then (if 0 ≤ (mn (l1.length : Int) 5000) then (if (mn (l1.length : Int) 5000) ≤ (l1.length : Int) then ((incunablelaw01_number.f a0).bind fun t346 => ((varnum_Num.f k t346).bind fun bt347 => ((varnum_Text.f k (l1.take ((mn (l1.length : Int) 5000) : Int).toNat) 5000).bind fun bt351 => ((incunableref00_CopyBytes.f bt347.1).bind fun t355 => (if t355.length + bt351.1.length < 225179981368000 then ((some (t355 ++ bt351.1 : List Int)).bind fun y358 => (if y358.length + l2.length < 225179981368000 then ((varnum_TakeNum.f k (y358 ++ l2)).bind fun bt364 => ((varnum_TakeText.f k bt364.2.1 5000).bind fun bt369 => (if bt347.2 = 0 then (if bt351.2 = 0 then (if bt364.2.2 = 0 then ((incunablelaw01_number.f a0).bind fun t376 => (if bt364.1 = t376 then (if bt369.2.2 = 0 then ((incunableref00_EqBytes.f k bt369.1 (l1.take ((mn (l1.length : Int) 5000) : Int).toNat)).bind fun t377 => (if t377 = true then ((incunableref00_EqBytes.f k bt369.2.1 l2).bind fun t378 => (some t378)) else (none))) else (none)) else (none))) else (none)) else (none)) else (none)))) else (none))) else (none)))))) else (none)) else (none)) else (none)) = some r := H
  have A4 := Aside0.mk A40
  clear A40
  by_cases c5 : t344 = true
  · subst c5
    have H1 : (if 0 ≤ (mn (l1.length : Int) 5000) then (if (mn (l1.length : Int) 5000) ≤ (l1.length : Int) then ((incunablelaw01_number.f a0).bind fun t346 => ((varnum_Num.f k t346).bind fun bt347 => ((varnum_Text.f k (l1.take ((mn (l1.length : Int) 5000) : Int).toNat) 5000).bind fun bt351 => ((incunableref00_CopyBytes.f bt347.1).bind fun t355 => (if t355.length + bt351.1.length < 225179981368000 then ((some (t355 ++ bt351.1 : List Int)).bind fun y358 => (if y358.length + l2.length < 225179981368000 then ((varnum_TakeNum.f k (y358 ++ l2)).bind fun bt364 => ((varnum_TakeText.f k bt364.2.1 5000).bind fun bt369 => (if bt347.2 = 0 then (if bt351.2 = 0 then (if bt364.2.2 = 0 then ((incunablelaw01_number.f a0).bind fun t376 => (if bt364.1 = t376 then (if bt369.2.2 = 0 then ((incunableref00_EqBytes.f k bt369.1 (l1.take ((mn (l1.length : Int) 5000) : Int).toNat)).bind fun t377 => (if t377 = true then ((incunableref00_EqBytes.f k bt369.2.1 l2).bind fun t378 => (some t378)) else (none))) else (none)) else (none))) else (none)) else (none)) else (none)))) else (none))) else (none)))))) else (none)) else (none)) = some r := by rw [if_pos rfl] at H; exact H
    clear H
    have H := H1
    clear H1
    obtain ⟨ji6, hji6⟩ : ∃ j_ : Int, (mn (l1.length : Int) 5000) = j_ := ⟨_, rfl⟩
    replace H : (if 0 ≤ (ji6) then (if (ji6) ≤ (l1.length : Int) then ((incunablelaw01_number.f a0).bind fun t346 => ((varnum_Num.f k t346).bind fun bt347 => ((varnum_Text.f k (l1.take ((ji6) : Int).toNat) 5000).bind fun bt351 => ((incunableref00_CopyBytes.f bt347.1).bind fun t355 => (if t355.length + bt351.1.length < 225179981368000 then ((some (t355 ++ bt351.1 : List Int)).bind fun y358 => (if y358.length + l2.length < 225179981368000 then ((varnum_TakeNum.f k (y358 ++ l2)).bind fun bt364 => ((varnum_TakeText.f k bt364.2.1 5000).bind fun bt369 => (if bt347.2 = 0 then (if bt351.2 = 0 then (if bt364.2.2 = 0 then ((incunablelaw01_number.f a0).bind fun t376 => (if bt364.1 = t376 then (if bt369.2.2 = 0 then ((incunableref00_EqBytes.f k bt369.1 (l1.take ((ji6) : Int).toNat)).bind fun t377 => (if t377 = true then ((incunableref00_EqBytes.f k bt369.2.1 l2).bind fun t378 => (some t378)) else (none))) else (none)) else (none))) else (none)) else (none)) else (none)))) else (none))) else (none)))))) else (none)) else (none)) = some r := by first | (rw [hji6] at H; exact H) | (simp only [hji6] at H ⊢; exact H)
    (try rw [hji6] at A4)
    (try (have hji6h : ji6 ≤ 5000 := by (rw [← hji6]; unfold mn; (repeat' split) <;> omega)))
    (try (have hji6g : ji6 ≤ 64 := by omega))
    (try (have hji6l : 0 ≤ ji6 := by (rw [← hji6]; unfold mn; (repeat' split) <;> omega)))
    (try (have hji6m : 0 ≤ ji6 := by omega))
    have hji6_ : (if 5000 < (l1.length : Int) then 5000 else (l1.length : Int)) = ji6 := hji6
    by_cases c7 : 0 ≤ (ji6)
    · rw [if_pos c7] at H
      have c7b0 := eq_true c7
      have c7b1 : decide (0 ≤ (ji6)) = true := decide_eq_true c7
      clear c7
      by_cases c8 : (ji6) ≤ (l1.length : Int)
      · rw [if_pos c8] at H
        have c8b0 := eq_true c8
        have c8b1 : decide ((ji6) ≤ (l1.length : Int)) = true := decide_eq_true c8
        clear c8
        replace H := Option.bind_eq_some_iff.mp H
        obtain ⟨t346, A90, H⟩ := H
        replace H : ((varnum_Num.f k t346).bind fun bt347 => ((varnum_Text.f k (l1.take ((ji6) : Int).toNat) 5000).bind fun bt351 => ((incunableref00_CopyBytes.f bt347.1).bind fun t355 => (if t355.length + bt351.1.length < 225179981368000 then ((some (t355 ++ bt351.1 : List Int)).bind fun y358 => (if y358.length + l2.length < 225179981368000 then ((varnum_TakeNum.f k (y358 ++ l2)).bind fun bt364 => ((varnum_TakeText.f k bt364.2.1 5000).bind fun bt369 => (if bt347.2 = 0 then (if bt351.2 = 0 then (if bt364.2.2 = 0 then ((incunablelaw01_number.f a0).bind fun t376 => (if bt364.1 = t376 then (if bt369.2.2 = 0 then ((incunableref00_EqBytes.f k bt369.1 (l1.take ((ji6) : Int).toNat)).bind fun t377 => (if t377 = true then ((incunableref00_EqBytes.f k bt369.2.1 l2).bind fun t378 => (some t378)) else (none))) else (none)) else (none))) else (none)) else (none)) else (none)))) else (none))) else (none))))) = some r := H
        have A9 := Aside0.mk A90
        clear A90
        replace H := Option.bind_eq_some_iff.mp H
        obtain ⟨⟨t347, t348⟩, A100, H⟩ := H
        replace H : ((varnum_Text.f k (l1.take ((ji6) : Int).toNat) 5000).bind fun bt351 => ((incunableref00_CopyBytes.f t347).bind fun t355 => (if t355.length + bt351.1.length < 225179981368000 then ((some (t355 ++ bt351.1 : List Int)).bind fun y358 => (if y358.length + l2.length < 225179981368000 then ((varnum_TakeNum.f k (y358 ++ l2)).bind fun bt364 => ((varnum_TakeText.f k bt364.2.1 5000).bind fun bt369 => (if t348 = 0 then (if bt351.2 = 0 then (if bt364.2.2 = 0 then ((incunablelaw01_number.f a0).bind fun t376 => (if bt364.1 = t376 then (if bt369.2.2 = 0 then ((incunableref00_EqBytes.f k bt369.1 (l1.take ((ji6) : Int).toNat)).bind fun t377 => (if t377 = true then ((incunableref00_EqBytes.f k bt369.2.1 l2).bind fun t378 => (some t378)) else (none))) else (none)) else (none))) else (none)) else (none)) else (none)))) else (none))) else (none)))) = some r := H
        have A10 := Aside0.mk A100
        clear A100
        replace H := Option.bind_eq_some_iff.mp H
        obtain ⟨⟨t351, t352⟩, A110, H⟩ := H
        replace H : ((incunableref00_CopyBytes.f t347).bind fun t355 => (if t355.length + t351.length < 225179981368000 then ((some (t355 ++ t351 : List Int)).bind fun y358 => (if y358.length + l2.length < 225179981368000 then ((varnum_TakeNum.f k (y358 ++ l2)).bind fun bt364 => ((varnum_TakeText.f k bt364.2.1 5000).bind fun bt369 => (if t348 = 0 then (if t352 = 0 then (if bt364.2.2 = 0 then ((incunablelaw01_number.f a0).bind fun t376 => (if bt364.1 = t376 then (if bt369.2.2 = 0 then ((incunableref00_EqBytes.f k bt369.1 (l1.take ((ji6) : Int).toNat)).bind fun t377 => (if t377 = true then ((incunableref00_EqBytes.f k bt369.2.1 l2).bind fun t378 => (some t378)) else (none))) else (none)) else (none))) else (none)) else (none)) else (none)))) else (none))) else (none))) = some r := H
        have A11 := Aside0.mk A110
        clear A110
        replace H := Option.bind_eq_some_iff.mp H
        obtain ⟨t355, A120, H⟩ := H
        replace H : (if t355.length + t351.length < 225179981368000 then ((some (t355 ++ t351 : List Int)).bind fun y358 => (if y358.length + l2.length < 225179981368000 then ((varnum_TakeNum.f k (y358 ++ l2)).bind fun bt364 => ((varnum_TakeText.f k bt364.2.1 5000).bind fun bt369 => (if t348 = 0 then (if t352 = 0 then (if bt364.2.2 = 0 then ((incunablelaw01_number.f a0).bind fun t376 => (if bt364.1 = t376 then (if bt369.2.2 = 0 then ((incunableref00_EqBytes.f k bt369.1 (l1.take ((ji6) : Int).toNat)).bind fun t377 => (if t377 = true then ((incunableref00_EqBytes.f k bt369.2.1 l2).bind fun t378 => (some t378)) else (none))) else (none)) else (none))) else (none)) else (none)) else (none)))) else (none))) else (none)) = some r := H
        have A12 := Aside0.mk A120
        clear A120
        by_cases c13 : t355.length + t351.length < 225179981368000
        · rw [if_pos c13] at H
          have LMc13 := Aside0.mk c13
          clear c13
          obtain ⟨y358, hy358⟩ : ∃ y_ : List Int, y_ = (t355 ++ t351) := ⟨_, rfl⟩
          replace H : (if y358.length + l2.length < 225179981368000 then ((varnum_TakeNum.f k (y358 ++ l2)).bind fun bt364 => ((varnum_TakeText.f k bt364.2.1 5000).bind fun bt369 => (if t348 = 0 then (if t352 = 0 then (if bt364.2.2 = 0 then ((incunablelaw01_number.f a0).bind fun t376 => (if bt364.1 = t376 then (if bt369.2.2 = 0 then ((incunableref00_EqBytes.f k bt369.1 (l1.take ((ji6) : Int).toNat)).bind fun t377 => (if t377 = true then ((incunableref00_EqBytes.f k bt369.2.1 l2).bind fun t378 => (some t378)) else (none))) else (none)) else (none))) else (none)) else (none)) else (none)))) else (none)) = some r := by first | (rw [hy358]; with_reducible exact H) | (have H2_ := (Option.bind_some _ _).symm.trans H; rw [hy358]; with_reducible exact H2_) | (have H2_ := (Option.bind_some _ _).symm.trans H; with_reducible exact H2_) | with_reducible exact H | (rw [hy358]; exact H) | exact H
          have Ny358 := Aside0.mk hy358
          clear hy358
          by_cases c14 : y358.length + l2.length < 225179981368000
          · rw [if_pos c14] at H
            have LMc14 := Aside0.mk c14
            clear c14
            obtain ⟨y361, hy361⟩ : ∃ y_ : List Int, y_ = (y358 ++ l2) := ⟨_, rfl⟩
            replace H : ((varnum_TakeNum.f k y361).bind fun bt364 => ((varnum_TakeText.f k bt364.2.1 5000).bind fun bt369 => (if t348 = 0 then (if t352 = 0 then (if bt364.2.2 = 0 then ((incunablelaw01_number.f a0).bind fun t376 => (if bt364.1 = t376 then (if bt369.2.2 = 0 then ((incunableref00_EqBytes.f k bt369.1 (l1.take ((ji6) : Int).toNat)).bind fun t377 => (if t377 = true then ((incunableref00_EqBytes.f k bt369.2.1 l2).bind fun t378 => (some t378)) else (none))) else (none)) else (none))) else (none)) else (none)) else (none)))) = some r := by first | (rw [hy361]; with_reducible exact H) | (have H2_ := (Option.bind_some _ _).symm.trans H; rw [hy361]; with_reducible exact H2_) | (have H2_ := (Option.bind_some _ _).symm.trans H; with_reducible exact H2_) | with_reducible exact H | (rw [hy361]; exact H) | exact H
            have Ny361 := Aside0.mk hy361
            clear hy361
            replace H := Option.bind_eq_some_iff.mp H
            obtain ⟨⟨t364, t365, t366⟩, A150, H⟩ := H
            replace H : ((varnum_TakeText.f k t365 5000).bind fun bt369 => (if t348 = 0 then (if t352 = 0 then (if t366 = 0 then ((incunablelaw01_number.f a0).bind fun t376 => (if t364 = t376 then (if bt369.2.2 = 0 then ((incunableref00_EqBytes.f k bt369.1 (l1.take ((ji6) : Int).toNat)).bind fun t377 => (if t377 = true then ((incunableref00_EqBytes.f k bt369.2.1 l2).bind fun t378 => (some t378)) else (none))) else (none)) else (none))) else (none)) else (none)) else (none))) = some r := H
            have A15 := Aside0.mk A150
            clear A150
            replace H := Option.bind_eq_some_iff.mp H
            obtain ⟨⟨t369, t370, t371⟩, A160, H⟩ := H
            replace H : (if t348 = 0 then (if t352 = 0 then (if t366 = 0 then ((incunablelaw01_number.f a0).bind fun t376 => (if t364 = t376 then (if t371 = 0 then ((incunableref00_EqBytes.f k t369 (l1.take ((ji6) : Int).toNat)).bind fun t377 => (if t377 = true then ((incunableref00_EqBytes.f k t370 l2).bind fun t378 => (some t378)) else (none))) else (none)) else (none))) else (none)) else (none)) else (none)) = some r := H
            have A16 := Aside0.mk A160
            clear A160
            by_cases c17 : t348 = 0
            · rw [if_pos c17] at H
              have c17b0 : (t348 == 0) = true := beq_iff_eq.mpr c17
              have c17b1 : (t348 != 0) = false := bne_eq_false_iff_eq.mpr c17
              clear c17
              by_cases c18 : t352 = 0
              · rw [if_pos c18] at H
                have c18b0 : (t352 == 0) = true := beq_iff_eq.mpr c18
                have c18b1 : (t352 != 0) = false := bne_eq_false_iff_eq.mpr c18
                clear c18
                by_cases c19 : t366 = 0
                · rw [if_pos c19] at H
                  have c19b0 : (t366 == 0) = true := beq_iff_eq.mpr c19
                  have c19b1 : (t366 != 0) = false := bne_eq_false_iff_eq.mpr c19
                  clear c19
                  replace H := Option.bind_eq_some_iff.mp H
                  obtain ⟨t376, A200, H⟩ := H
                  replace H : (if t364 = t376 then (if t371 = 0 then ((incunableref00_EqBytes.f k t369 (l1.take ((ji6) : Int).toNat)).bind fun t377 => (if t377 = true then ((incunableref00_EqBytes.f k t370 l2).bind fun t378 => (some t378)) else (none))) else (none)) else (none)) = some r := H
                  have A20 := Aside0.mk A200
                  clear A200
                  by_cases c21 : t364 = t376
                  · rw [if_pos c21] at H
                    have c21b0 : (t364 == t376) = true := beq_iff_eq.mpr c21
                    have c21b1 : (t364 != t376) = false := bne_eq_false_iff_eq.mpr c21
                    clear c21
                    by_cases c22 : t371 = 0
                    · rw [if_pos c22] at H
                      have c22b0 : (t371 == 0) = true := beq_iff_eq.mpr c22
                      have c22b1 : (t371 != 0) = false := bne_eq_false_iff_eq.mpr c22
                      clear c22
                      replace H := Option.bind_eq_some_iff.mp H
                      obtain ⟨t377, A230, H⟩ := H
                      replace H : (if t377 = true then ((incunableref00_EqBytes.f k t370 l2).bind fun t378 => (some t378)) else (none)) = some r := H
                      have A23 := Aside0.mk A230
                      clear A230
                      by_cases c24 : t377 = true
                      · subst c24
                        have H1 : ((incunableref00_EqBytes.f k t370 l2).bind fun t378 => (some t378)) = some r := by rw [if_pos rfl] at H; exact H
                        clear H
                        have H := H1
                        clear H1
                        replace H := Option.bind_eq_some_iff.mp H
                        obtain ⟨t378, A250, H⟩ := H
                        replace H : (some t378) = some r := H
                        have A25 := Aside0.mk A250
                        clear A250
                        obtain rfl := Option.some.inj H
                        go_enter Try.func5, Try.ntmps5
                        go_wp2_with (first | ((with_reducible refine gate_callee (f := 19) rfl ?_); refine goesL_ (some 17) rfl rfl Try.func19 (by kernel_rfl) rfl #[] rfl (by (try simp only [List.map_toArray, List.map_cons, List.map_nil]); first | done | rfl | (simp only [List.length_drop, List.length_take]; rfl)) ?_; (with_reducible refine (incunablelaw01_works.calls k  true _ A4.out).mono ?_); rintro e w26 ⟨rfl, hb⟩; refine ⟨_, rfl, ?_⟩; have n0_ := Aside0.mk (below_step (by repeat (first | (with_reducible first | exact HB.out | apply below_alloc | apply pw_below_drewN | apply below_drew1) | exact HB.out)) hb); clear HB; have HB := n0_; clear n0_; (try clear hb); (try clear hb2); (try clear hk); (try clear hi); obtain ⟨i027, hi027, _, hsz27, _⟩ := info_parts info5; obtain ⟨hcut27, hA27, hC27⟩ := print_take_of (P := Try.prog) (Value.int .u8) 0 22 5 .i64 Try.underlying22 hi027 hsz27 A1 c1 l1 (ji6) (of_decide_eq_true (by first | (with_reducible assumption) | assumption)) (of_decide_eq_true (by first | (with_reducible assumption) | assumption)) HC1.out; have HR345 := Aside0.mk (Kd.C_of_reads (h1 := fun _ => rfl) (hA27 _ (Kd.reads_of_C HR1.out))); have HC345 := Aside0.mk hC27; clear hA27 hC27 hi027 hsz27) | ((with_reducible refine gate_callee (f := 24) rfl ?_); refine goesL_ (some 26) rfl rfl Try.func24 (by kernel_rfl) rfl #[.int .i64 a0] rfl (by (try simp only [List.map_toArray, List.map_cons, List.map_nil]); first | done | rfl | (simp only [List.length_drop, List.length_take]; rfl)) ?_; (with_reducible refine (incunablelaw01_number.calls a0 t346 _ A9.out).mono ?_); rintro e w' ⟨rfl, ⟨nd, rfl⟩⟩; refine ⟨_, rfl, ?_⟩) | ((with_reducible refine gate_callee (f := 12) rfl ?_); refine goesL_ (some 27) rfl rfl Try.func12 (by kernel_rfl) rfl #[.int .i64 t346] rfl (by (try simp only [List.map_toArray, List.map_cons, List.map_nil]); first | done | rfl | (simp only [List.length_drop, List.length_take]; rfl)) ?_; (with_reducible refine (varnum_Num.calls k t346 t347 t348 _ A10.out).mono ?_); rintro e w28 ⟨v349, rfl, ho0, hb⟩; refine ⟨_, rfl, ?_⟩; have n0_ := Aside0.mk (Kd.R_lower ho0 (below_size (by repeat (first | (with_reducible first | exact HB.out | apply below_alloc | apply pw_below_drewN | apply below_drew1) | exact HB.out)))); have n1_ := Aside0.mk (below_step (by repeat (first | (with_reducible first | exact HB.out | apply below_alloc | apply pw_below_drewN | apply below_drew1) | exact HB.out)) hb); clear HB; have HO350 := n0_; have HB := n1_; clear n0_ n1_; (try clear hb); (try clear hb2); (try clear hk); (try clear hi); (try clear ho0)) | ((with_reducible refine gate_callee (f := 20) rfl ?_); refine goesL_ (some 32) rfl rfl Try.func20 (by kernel_rfl) rfl #[.slice A1 (l1.take ((ji6) : Int).toNat).length c1, .int .i64 5000] rfl (by (try simp only [List.map_toArray, List.map_cons, List.map_nil]); first | done | (rw [show (l1.take ((ji6) : Int).toNat).length = (ji6).toNat from (by rw [List.length_take]; have h_ : ((ji6) : Int) ≤ (l1.length : Int) := (by first | exact of_decide_eq_true (by first | (with_reducible assumption) | assumption) | (have h2_ := hji6_; split at h2_ <;> omega)); omega)] <;> rfl) | (simp only [hji6]; rfl) | rfl | (simp only [List.length_drop, List.length_take]; rfl)) ?_; (with_reducible refine (varnum_Text.calls k _ _ (l1.take ((ji6) : Int).toNat) 5000 t351 t352 _ ?side1 ?side2 A11.out).mono ?_); (case side1 => repeat (first | exact (Kd.C_below HR345.out HB.out) | (with_reducible refine Kd.C_alloc ?_ _) | (with_reducible refine Kd.C_drewN ?_ _) | (with_reducible refine Kd.C_drew ?_))); (case side2 => exact HC345.out); rintro e w29 ⟨v353, rfl, ho0, hb⟩; refine ⟨_, rfl, ?_⟩; have n0_ := Aside0.mk (Kd.R_elder' (by (with_reducible repeat (first | apply Kd.R_alloc | apply Kd.R_drewN | apply Kd.R_drew)); exact HO350.out) (Kd.R_base ho0) hb); have n1_ := Aside0.mk (Kd.R_lower (Kd.R_new' ho0 (Kd.R_lt (by (with_reducible repeat (first | apply Kd.R_alloc | apply Kd.R_drewN | apply Kd.R_drew)); exact HO350.out))) (below_size (by repeat (first | (with_reducible first | exact HB.out | apply below_alloc | apply pw_below_drewN | apply below_drew1) | exact HB.out)))); have n2_ := Aside0.mk (below_step (by repeat (first | (with_reducible first | exact HB.out | apply below_alloc | apply pw_below_drewN | apply below_drew1) | exact HB.out)) hb); clear HO350; clear HB; have HO350 := n0_; have HO354 := n1_; have HB := n2_; clear n0_ n1_ n2_; (try clear hb); (try clear hb2); (try clear hk); (try clear hi); (try clear ho0); obtain ⟨Ao30, co30, eo30⟩ := Kd.R_slice HO350.out; subst eo30) | ((with_reducible refine gate_callee (f := 14) rfl ?_); refine goesL_ (some 37) rfl rfl Try.func14 (by kernel_rfl) rfl #[.slice Ao30 t347.length co30] rfl (by (try simp only [List.map_toArray, List.map_cons, List.map_nil]); first | done | rfl | (simp only [List.length_drop, List.length_take]; rfl)) ?_; (with_reducible refine (incunableref00_CopyBytes.calls _ _ t347 t355 _ ?side1 ?side2 A12.out).mono ?_); (case side1 => repeat (first | exact (Kd.R_reads' HO350.out).2.2 | (with_reducible refine Kd.C_alloc ?_ _) | (with_reducible refine Kd.C_drewN ?_ _) | (with_reducible refine Kd.C_drew ?_))); (case side2 => exact (Kd.R_reads' HO350.out).2.1); rintro e w31 ⟨v356, rfl, ho0, hb⟩; refine ⟨_, rfl, ?_⟩; have n0_ := Aside0.mk (Kd.R_elder' (by (with_reducible repeat (first | apply Kd.R_alloc | apply Kd.R_drewN | apply Kd.R_drew)); exact HO350.out) (Kd.R_base ho0) hb); have n1_ := Aside0.mk (Kd.R_elder' (by (with_reducible repeat (first | apply Kd.R_alloc | apply Kd.R_drewN | apply Kd.R_drew)); exact HO354.out) (Kd.R_base ho0) hb); have n2_ := Aside0.mk (Kd.R_lower (Kd.R_new' (Kd.R_new' ho0 (Kd.R_lt (by (with_reducible repeat (first | apply Kd.R_alloc | apply Kd.R_drewN | apply Kd.R_drew)); exact HO350.out))) (Kd.R_lt (by (with_reducible repeat (first | apply Kd.R_alloc | apply Kd.R_drewN | apply Kd.R_drew)); exact HO354.out))) (below_size (by repeat (first | (with_reducible first | exact HB.out | apply below_alloc | apply pw_below_drewN | apply below_drew1) | exact HB.out)))); have n3_ := Aside0.mk (below_step (by repeat (first | (with_reducible first | exact HB.out | apply below_alloc | apply pw_below_drewN | apply below_drew1) | exact HB.out)) hb); clear HO350; clear HO354; clear HB; have HO350 := n0_; have HO354 := n1_; have HO357 := n2_; have HB := n3_; clear n0_ n1_ n2_ n3_; (try clear hb); (try clear hb2); (try clear hk); (try clear hi); (try clear ho0); obtain ⟨Ao33, co33, eo33⟩ := Kd.R_slice HO354.out; subst eo33) | ((with_reducible refine gate_builtin (b := .append) (xs := #[.tmp 37, .tmp 38]) rfl ?_); at_builtin; refine Kd.R_append_rows_wide (Kd.int .u8) (w0 := w) w.heap.size rfl (.tmp 37) (.tmp 38) 22 5 (.int .u8 0) 1 rfl Try.underlying22 info5 rfl (by decide) (by omega) v356 t355 t351 _ _ _ (fun k_ => some k_ ≠ (.slice Ao30 t347.length co30 : Value).ownBlock ∧ some k_ ≠ (.slice Ao33 t351.length co33 : Value).ownBlock) (fun _ => False) rfl rfl ?aO ?aR (fun _ _ h => h) (fun _ h => h.elim) ?aF ?aB ?aS ?aL ?_; (case aR => repeat (first | exact (Kd.R_reads' HO354.out).2.2 | (with_reducible refine Kd.C_alloc ?_ _) | (with_reducible refine Kd.C_drewN ?_ _) | (with_reducible refine Kd.C_drew ?_))); (case aB => exact (by repeat (first | (with_reducible first | exact HB.out | apply below_alloc | apply pw_below_drewN | apply below_drew1) | exact HB.out))); (case aF => exact (fun k_ hk => ⟨Kd.fresh' (Kd.R_lt (by (with_reducible repeat (first | apply Kd.R_alloc | apply Kd.R_drewN | apply Kd.R_drew)); exact HO350.out)) k_ hk, Kd.fresh' (Kd.R_lt (by (with_reducible repeat (first | apply Kd.R_alloc | apply Kd.R_drewN | apply Kd.R_drew)); exact HO354.out)) k_ hk⟩)); (case aO => exact (by (with_reducible repeat (first | apply Kd.R_alloc | apply Kd.R_drewN | apply Kd.R_drew)); exact Kd.R_mono HO357.out (fun _ hk => ⟨hk.1.2, hk.2⟩))); (case aS => exact (below_size (by repeat (first | (with_reducible first | exact HB.out | apply below_alloc | apply pw_below_drewN | apply below_drew1) | exact HB.out)))); (case aL => have := LMc13.out; omega); intro v359 w32 ho hb hg hat; rw [← Ny358.out] at ho; have n0_ := Aside0.mk (Kd.R_after (ok := (fun k_ => some k_ ≠ (.slice Ao33 t351.length co33 : Value).ownBlock)) (by (with_reducible repeat (first | apply Kd.R_alloc | apply Kd.R_drewN | apply Kd.R_drew)); exact Kd.R_mono HO350.out (fun _ hk => ⟨hk.1.2, hk.2⟩)) hg hat); have n1_ := Aside0.mk (Kd.R_after (ok := (fun k_ => some k_ ≠ (.slice Ao30 t347.length co30 : Value).ownBlock)) (by (with_reducible repeat (first | apply Kd.R_alloc | apply Kd.R_drewN | apply Kd.R_drew)); exact Kd.R_mono HO354.out (fun _ hk => ⟨hk.1.2, hk.2⟩)) hg hat); have n2_ := Aside0.mk (hb); have n3_ := Aside0.mk (ho); clear HO350; clear HO354; clear HB; clear HO357; have HO350 := n0_; have HO354 := n1_; have HB := n2_; have HO360 := n3_; clear n0_ n1_ n2_ n3_; clear ho hb hg hat) | ((with_reducible refine gate_builtin (b := .append) (xs := #[.tmp 39, .tmp 40]) rfl ?_); at_builtin; refine Kd.R_append_rows_wide (Kd.int .u8) (w0 := w) w.heap.size rfl (.tmp 39) (.tmp 40) 22 5 (.int .u8 0) 1 rfl Try.underlying22 info5 rfl (by decide) (by omega) v359 y358 l2 _ _ _ (fun k_ => some k_ ≠ (.slice Ao30 t347.length co30 : Value).ownBlock ∧ some k_ ≠ (.slice Ao33 t351.length co33 : Value).ownBlock) (fun _ => False) rfl rfl ?aO ?aR (fun _ _ h => h) (fun _ h => h.elim) ?aF ?aB ?aS ?aL ?_; (case aR => repeat (first | exact (Kd.C_below HR2.out HB.out) | (with_reducible refine Kd.C_alloc ?_ _) | (with_reducible refine Kd.C_drewN ?_ _) | (with_reducible refine Kd.C_drew ?_))); (case aB => exact (by repeat (first | (with_reducible first | exact HB.out | apply below_alloc | apply pw_below_drewN | apply below_drew1) | exact HB.out))); (case aF => exact (fun k_ hk => ⟨Kd.fresh' (Kd.R_lt (by (with_reducible repeat (first | apply Kd.R_alloc | apply Kd.R_drewN | apply Kd.R_drew)); exact HO350.out)) k_ hk, Kd.fresh' (Kd.R_lt (by (with_reducible repeat (first | apply Kd.R_alloc | apply Kd.R_drewN | apply Kd.R_drew)); exact HO354.out)) k_ hk⟩)); (case aO => exact (by (with_reducible repeat (first | apply Kd.R_alloc | apply Kd.R_drewN | apply Kd.R_drew)); exact HO360.out)); (case aS => exact (below_size (by repeat (first | (with_reducible first | exact HB.out | apply below_alloc | apply pw_below_drewN | apply below_drew1) | exact HB.out)))); (case aL => have := LMc14.out; omega); intro v362 w34 ho hb hg hat; rw [← Ny361.out] at ho; have n0_ := Aside0.mk (Kd.R_after (ok := (fun k_ => some k_ ≠ (.slice Ao33 t351.length co33 : Value).ownBlock)) (by (with_reducible repeat (first | apply Kd.R_alloc | apply Kd.R_drewN | apply Kd.R_drew)); exact HO350.out) hg hat); have n1_ := Aside0.mk (Kd.R_after (ok := (fun k_ => some k_ ≠ (.slice Ao30 t347.length co30 : Value).ownBlock)) (by (with_reducible repeat (first | apply Kd.R_alloc | apply Kd.R_drewN | apply Kd.R_drew)); exact HO354.out) hg hat); have n2_ := Aside0.mk (hb); have n3_ := Aside0.mk (ho); clear HO350; clear HO354; clear HB; clear HO360; have HO350 := n0_; have HO354 := n1_; have HB := n2_; have HO363 := n3_; clear n0_ n1_ n2_ n3_; clear ho hb hg hat; obtain ⟨Ao35, co35, eo35⟩ := Kd.R_slice HO363.out; subst eo35) | ((with_reducible refine gate_callee (f := 15) rfl ?_); refine goesL_ (some 42) rfl rfl Try.func15 (by kernel_rfl) rfl #[.slice Ao35 y361.length co35] rfl (by (try simp only [List.map_toArray, List.map_cons, List.map_nil]); first | done | rfl | (simp only [List.length_drop, List.length_take]; rfl)) ?_; (with_reducible refine (varnum_TakeNum.calls k _ _ y361 t364 t365 t366 _ ?side1 ?side2 A15.out).mono ?_); (case side1 => repeat (first | exact (Kd.R_reads' HO363.out).2.2 | (with_reducible refine Kd.C_alloc ?_ _) | (with_reducible refine Kd.C_drewN ?_ _) | (with_reducible refine Kd.C_drew ?_))); (case side2 => exact (Kd.R_reads' HO363.out).2.1); rintro e w36 ⟨v367, rfl, ho0, hb⟩; refine ⟨_, rfl, ?_⟩; have n0_ := Aside0.mk (Kd.R_elder' (by (with_reducible repeat (first | apply Kd.R_alloc | apply Kd.R_drewN | apply Kd.R_drew)); exact HO350.out) (Kd.R_base ho0) hb); have n1_ := Aside0.mk (Kd.R_elder' (by (with_reducible repeat (first | apply Kd.R_alloc | apply Kd.R_drewN | apply Kd.R_drew)); exact HO354.out) (Kd.R_base ho0) hb); have n2_ := Aside0.mk (Kd.R_elder' (by (with_reducible repeat (first | apply Kd.R_alloc | apply Kd.R_drewN | apply Kd.R_drew)); exact HO363.out) (Kd.R_base ho0) hb); have n3_ := Aside0.mk (Kd.R_lower (Kd.R_new' (Kd.R_new' (Kd.R_new' ho0 (Kd.R_lt (by (with_reducible repeat (first | apply Kd.R_alloc | apply Kd.R_drewN | apply Kd.R_drew)); exact HO350.out))) (Kd.R_lt (by (with_reducible repeat (first | apply Kd.R_alloc | apply Kd.R_drewN | apply Kd.R_drew)); exact HO354.out))) (Kd.R_lt (by (with_reducible repeat (first | apply Kd.R_alloc | apply Kd.R_drewN | apply Kd.R_drew)); exact HO363.out))) (below_size (by repeat (first | (with_reducible first | exact HB.out | apply below_alloc | apply pw_below_drewN | apply below_drew1) | exact HB.out)))); have n4_ := Aside0.mk (below_step (by repeat (first | (with_reducible first | exact HB.out | apply below_alloc | apply pw_below_drewN | apply below_drew1) | exact HB.out)) hb); clear HO350; clear HO354; clear HO363; clear HB; have HO350 := n0_; have HO354 := n1_; have HO363 := n2_; have HO368 := n3_; have HB := n4_; clear n0_ n1_ n2_ n3_ n4_; (try clear hb); (try clear hb2); (try clear hk); (try clear hi); (try clear ho0); obtain ⟨Ao37, co37, eo37⟩ := Kd.R_slice HO368.out; subst eo37) | ((with_reducible refine gate_callee (f := 22) rfl ?_); refine goesL_ (some 48) rfl rfl Try.func22 (by kernel_rfl) rfl #[.slice Ao37 t365.length co37, .int .i64 5000] rfl (by (try simp only [List.map_toArray, List.map_cons, List.map_nil]); first | done | rfl | (simp only [List.length_drop, List.length_take]; rfl)) ?_; (with_reducible refine (varnum_TakeText.calls k _ _ t365 5000 t369 t370 t371 _ ?side1 ?side2 A16.out).mono ?_); (case side1 => repeat (first | exact (Kd.R_reads' HO368.out).2.2 | (with_reducible refine Kd.C_alloc ?_ _) | (with_reducible refine Kd.C_drewN ?_ _) | (with_reducible refine Kd.C_drew ?_))); (case side2 => exact (Kd.R_reads' HO368.out).2.1); rintro e w38 ⟨v372, v374, rfl, ho0, ho1, hb⟩; refine ⟨_, rfl, ?_⟩; have n0_ := Aside0.mk (Kd.R_mono (Kd.R_told (Kd.R_told (Kd.R_old (by (with_reducible repeat (first | apply Kd.R_alloc | apply Kd.R_drewN | apply Kd.R_drew)); exact HO350.out) hb) (Kd.R_base ho0)) (Kd.R_base ho1)) (fun _ h_ => h_.1)); have n1_ := Aside0.mk (Kd.R_mono (Kd.R_told (Kd.R_told (Kd.R_old (by (with_reducible repeat (first | apply Kd.R_alloc | apply Kd.R_drewN | apply Kd.R_drew)); exact HO354.out) hb) (Kd.R_base ho0)) (Kd.R_base ho1)) (fun _ h_ => h_.1)); have n2_ := Aside0.mk (Kd.R_mono (Kd.R_told (Kd.R_told (Kd.R_old (by (with_reducible repeat (first | apply Kd.R_alloc | apply Kd.R_drewN | apply Kd.R_drew)); exact HO363.out) hb) (Kd.R_base ho0)) (Kd.R_base ho1)) (fun _ h_ => h_.1)); have n3_ := Aside0.mk (Kd.R_mono (Kd.R_told (Kd.R_told (Kd.R_old (by (with_reducible repeat (first | apply Kd.R_alloc | apply Kd.R_drewN | apply Kd.R_drew)); exact HO368.out) hb) (Kd.R_base ho0)) (Kd.R_base ho1)) (fun _ h_ => h_.1)); have n4_ := Aside0.mk (Kd.R_lower (Kd.R_new' (Kd.R_new' (Kd.R_new' (Kd.R_new' ho0 (Kd.R_lt (by (with_reducible repeat (first | apply Kd.R_alloc | apply Kd.R_drewN | apply Kd.R_drew)); exact HO350.out))) (Kd.R_lt (by (with_reducible repeat (first | apply Kd.R_alloc | apply Kd.R_drewN | apply Kd.R_drew)); exact HO354.out))) (Kd.R_lt (by (with_reducible repeat (first | apply Kd.R_alloc | apply Kd.R_drewN | apply Kd.R_drew)); exact HO363.out))) (Kd.R_lt (by (with_reducible repeat (first | apply Kd.R_alloc | apply Kd.R_drewN | apply Kd.R_drew)); exact HO368.out))) (below_size (by repeat (first | (with_reducible first | exact HB.out | apply below_alloc | apply pw_below_drewN | apply below_drew1) | exact HB.out)))); have n5_ := Aside0.mk (Kd.R_lower (Kd.R_new' (Kd.R_new' (Kd.R_new' (Kd.R_new' ho1 (Kd.R_lt (by (with_reducible repeat (first | apply Kd.R_alloc | apply Kd.R_drewN | apply Kd.R_drew)); exact HO350.out))) (Kd.R_lt (by (with_reducible repeat (first | apply Kd.R_alloc | apply Kd.R_drewN | apply Kd.R_drew)); exact HO354.out))) (Kd.R_lt (by (with_reducible repeat (first | apply Kd.R_alloc | apply Kd.R_drewN | apply Kd.R_drew)); exact HO363.out))) (Kd.R_lt (by (with_reducible repeat (first | apply Kd.R_alloc | apply Kd.R_drewN | apply Kd.R_drew)); exact HO368.out))) (below_size (by repeat (first | (with_reducible first | exact HB.out | apply below_alloc | apply pw_below_drewN | apply below_drew1) | exact HB.out)))); have n6_ := Aside0.mk (below_step (by repeat (first | (with_reducible first | exact HB.out | apply below_alloc | apply pw_below_drewN | apply below_drew1) | exact HB.out)) hb); clear HO350; clear HO354; clear HO363; clear HO368; clear HB; have HO350 := n0_; have HO354 := n1_; have HO363 := n2_; have HO368 := n3_; have HO373 := n4_; have HO375 := n5_; have HB := n6_; clear n0_ n1_ n2_ n3_ n4_ n5_ n6_; (try clear hb); (try clear hb2); (try clear hk); (try clear hi); (try clear ho0); (try clear ho1)) | (go_at_call 24; (with_reducible refine (incunablelaw01_number.calls a0 t376 _ A20.out).mono ?_); rintro e w' ⟨rfl, ⟨nd, rfl⟩⟩; obtain ⟨Ao39, co39, eo39⟩ := Kd.R_slice HO373.out; subst eo39) | (go_at_call 17; (try (rw [show ((ji6) : Int).toNat = (l1.take ((ji6) : Int).toNat).length from (by rw [List.length_take]; have h_ : ((ji6) : Int) ≤ (l1.length : Int) := (by first | exact of_decide_eq_true (by first | (with_reducible assumption) | assumption) | (have h2_ := hji6_; split at h2_ <;> omega)); omega)])); (with_reducible refine (incunableref00_EqBytes.calls k _ _ t369 _ _ (l1.take ((ji6) : Int).toNat) true _ ?side1 ?side2 ?side3 ?side4 A23.out).mono ?_); (case side1 => repeat (first | exact (Kd.R_reads' HO373.out).2.2 | (with_reducible refine Kd.C_alloc ?_ _) | (with_reducible refine Kd.C_drewN ?_ _) | (with_reducible refine Kd.C_drew ?_))); (case side2 => exact (Kd.R_reads' HO373.out).2.1); (case side3 => repeat (first | exact (Kd.C_below HR345.out (by repeat (first | (with_reducible first | exact HB.out | apply below_alloc | apply pw_below_drewN | apply below_drew1) | exact HB.out))) | (with_reducible refine Kd.C_alloc ?_ _) | (with_reducible refine Kd.C_drewN ?_ _) | (with_reducible refine Kd.C_drew ?_))); (case side4 => exact HC345.out); rintro e w' ⟨rfl, ⟨nd, rfl⟩⟩; obtain ⟨Ao40, co40, eo40⟩ := Kd.R_slice HO375.out; subst eo40) | (go_at_call 17; (with_reducible refine (incunableref00_EqBytes.calls k _ _ t370 _ _ l2 t378 _ ?side1 ?side2 ?side3 ?side4 A25.out).mono ?_); (case side1 => repeat (first | exact (Kd.R_reads' HO375.out).2.2 | (with_reducible refine Kd.C_alloc ?_ _) | (with_reducible refine Kd.C_drewN ?_ _) | (with_reducible refine Kd.C_drew ?_))); (case side2 => exact (Kd.R_reads' HO375.out).2.1); (case side3 => repeat (first | exact (Kd.C_below HR2.out (by repeat (first | (with_reducible first | exact HB.out | apply below_alloc | apply pw_below_drewN | apply below_drew1) | exact HB.out))) | (with_reducible refine Kd.C_alloc ?_ _) | (with_reducible refine Kd.C_drewN ?_ _) | (with_reducible refine Kd.C_drew ?_))); (case side4 => exact HC2.out); rintro e w' ⟨rfl, ⟨nd, rfl⟩⟩))
                        go_ret
                        exact ⟨by first | rfl | (simp [errW_none, errW_some] <;> rfl) | (simp only [← hji6]; first | rfl | (simp [errW_none, errW_some] <;> rfl)) | (simp [*, errW_none, errW_some] <;> rfl), by repeat (first | (with_reducible first | exact HB.out | apply below_alloc | apply pw_below_drewN | apply below_drew1) | exact HB.out)⟩
                      · replace c24 := Bool.eq_false_iff.mpr c24
                        subst c24
                        have H1 : (none) = some r := by rw [if_neg (show ¬ (false = true) by decide)] at H; exact H
                        clear H
                        have H := H1
                        clear H1
                        exact absurd H (by simp)
                    · rw [if_neg c22] at H
                      exact absurd H (by simp)
                  · rw [if_neg c21] at H
                    exact absurd H (by simp)
                · rw [if_neg c19] at H
                  exact absurd H (by simp)
              · rw [if_neg c18] at H
                exact absurd H (by simp)
            · rw [if_neg c17] at H
              exact absurd H (by simp)
          · rw [if_neg c14] at H
            exact absurd H (by simp)
        · rw [if_neg c13] at H
          exact absurd H (by simp)
      · rw [if_neg c8] at H
        exact absurd H (by simp)
    · rw [if_neg c7] at H
      exact absurd H (by simp)
  · replace c5 := Bool.eq_false_iff.mpr c5
    subst c5
    have H1 : (none) = some r := by rw [if_neg (show ¬ (false = true) by decide)] at H; exact H
    clear H
    have H := H1
    clear H1
    exact absurd H (by simp)

/-- THE ONE PURE STATEMENT of incunablelaw01_VarnumBack: yours. -/
def incunablelaw01_VarnumBack.Pure : Prop := ∀ (a0 : Int) (l1 : List Int) (l2 : List Int), (Lit.int .i64 a0).wf = true → l1.length ≤ maxLen → l1.length * 1 ≤ 140737488351232 → (∀ x ∈ l1, (Lit.int .u8 x).wf = true) → l2.length ≤ maxLen → l2.length * 1 ≤ 140737488351232 → (∀ x ∈ l2, (Lit.int .u8 x).wf = true) → ∃ k, incunablelaw01_VarnumBack.f k a0 l1 l2 = some true
theorem incunablelaw01_VarnumBack.walk (P : incunablelaw01_VarnumBack.Pure) (a0 : Int) (a1 : Option Addr) (len1 cap1 : Nat) (z1 : List Int) (a2 : Option Addr) (len2 cap2 : Nat) (z2 : List Int) (w : World) (w0 : (Lit.int .i64 a0).wf = true) (w1 : (a1 = none ∧ len1 = 0 ∧ cap1 = 0 ∧ z1 = []) ∨ ∃ x, a1 = some x ∧ len1 ≤ cap1 ∧ cap1 ≤ maxLen ∧ z1.length = cap1 ∧ (∀ i, i < z1.length → w.cell? (x.add i) = some (.int .u8 (z1.getD i 0))) ∧ ∀ n ∈ z1, (Lit.int .u8 n).wf = true) (y1 : len1 * 1 ≤ 140737488351232) (w2 : (a2 = none ∧ len2 = 0 ∧ cap2 = 0 ∧ z2 = []) ∨ ∃ x, a2 = some x ∧ len2 ≤ cap2 ∧ cap2 ≤ maxLen ∧ z2.length = cap2 ∧ (∀ i, i < z2.length → w.cell? (x.add i) = some (.int .u8 (z2.getD i 0))) ∧ ∀ n ∈ z2, (Lit.int .u8 n).wf = true) (y2 : len2 * 1 ≤ 140737488351232) :
    Calls Try.prog 5 #[.int .i64 a0, .slice a1 len1 cap1, .slice a2 len2 cap2] w fun e w' => e = .returned (.bool true) ∧ Below w.heap.size w w' := by
  obtain ⟨l1, rfl, hr1, hm1, hw1, hc1⟩ := ReadsInt.ofRowC w1
  obtain ⟨l2, rfl, hr2, hm2, hw2, hc2⟩ := ReadsInt.ofRowC w2
  obtain ⟨k, h⟩ := P a0 l1 l2 w0 hm1 y1 hw1 hm2 y2 hw2
  refine (incunablelaw01_VarnumBack.calls k a0 _ _ l1 _ _ l2 true w (Kd.C_of_reads (d := (0 : Int)) (h1 := fun _ => rfl) hr1) hc1 (Kd.C_of_reads (d := (0 : Int)) (h1 := fun _ => rfl) hr2) hc2 h).mono ?_
  rintro e w' ⟨rfl, hd⟩
  exact ⟨rfl, hd⟩

end Go.Proofs.Ytnonhhblfmceaaa.X
