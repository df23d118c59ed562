-- Laid by xprint.py, a program of this session over the kit's print; checked by Lean alone.
import Derived.Test.YtnonhhblfmceaaaXx0
import Derived.Test.YtnonhhblfmceaaaXx1
import Derived.Test.YtnonhhblfmceaaaXx5
import Derived.Test.YtnonhhblfmceaaaXx9
import Derived.Test.YtnonhhblfmceaaaXx10
import Derived.Test.YtnonhhblfmceaaaXx13
import Derived.Test.YtnonhhblfmceaaaXx18
namespace Go.Proofs.Ytnonhhblfmceaaa.X
open Go.RowKit Go.Proofs.YtnonhhblfmceaaaW.PrintWords Go.Proofs.YtnonhhblfmceaaaW.PrintLast Go.Proofs.YtnonhhblfmceaaaW.PrintMore
attribute [local go_sem] max2_int min2_int max_two min_two max_three min_three max_four min_four   -- for this text's walks alone
set_option linter.unusedVariables false
set_option linter.unusedSimpArgs false

/-! ### incunablelaw01_VarnumCut: function 7 -/
def incunablelaw01_VarnumCut.j0 : Nat → Int → List Int → List Int → Bool → Option (Bool)
  | 0, _, _, _, _ => none
  | k + 1, x2, x7, x9, x49 => if x49 = true then (none) else ((incunableref00_Bring.f x2 (x7.length : Int)).bind fun t419 => (if 0 ≤ t419 then (if t419 ≤ (x7.length : Int) then ((varnum_TakeNum.f k (x7.take (t419 : Int).toNat)).bind fun bt424 => ((incunableref00_Bring.f x2 (x9.length : Int)).bind fun t429 => (if 0 ≤ t429 then (if t429 ≤ (x9.length : Int) then ((varnum_TakeText.f k (x9.take (t429 : Int).toNat) 5000).bind fun bt434 => (if bt424.2.2 = 3 then (some (bt434.2.2 == 3)) else (none))) else (none)) else (none)))) else (none)) else (none)))
def incunablelaw01_VarnumCut.f (k : Nat) (a0 : Int) (l1 : List Int) (a2 : Int) : Option (Bool) := (incunablelaw01_works.f k).bind fun t408 => (if t408 = true then ((incunablelaw01_number.f a0).bind fun t409 => ((varnum_Num.f k t409).bind fun bt410 => (if 0 ≤ (mn (l1.length : Int) 5000) then (if (mn (l1.length : Int) 5000) ≤ (l1.length : Int) then ((varnum_Text.f k (l1.take ((mn (l1.length : Int) 5000) : Int).toNat) 5000).bind fun bt415 => (if bt410.2 = 0 then (if bt415.2 = 0 then (if (bt410.1.length : Int) = 0 then (incunablelaw01_VarnumCut.j0 k a2 bt410.1 bt415.1 true) else (incunablelaw01_VarnumCut.j0 k a2 bt410.1 bt415.1 ((bt415.1.length : Int) == 0))) else (incunablelaw01_VarnumCut.j0 k a2 bt410.1 bt415.1 true)) else (incunablelaw01_VarnumCut.j0 k a2 bt410.1 bt415.1 true))) else (none)) else (none)))) else (none))
theorem incunablelaw01_VarnumCut.mono_l : ∀ k, (∀ y0 y1 y2 y3, LeO (incunablelaw01_VarnumCut.j0 k y0 y1 y2 y3) (incunablelaw01_VarnumCut.j0 (k + 1) y0 y1 y2 y3))
  | 0 => fun _ _ _ _ r h => by simp [incunablelaw01_VarnumCut.j0] at h
  | k + 1 => by
    have ih0 := incunablelaw01_VarnumCut.mono_l k
    · intro y0 y1 y2 y3
      unfold incunablelaw01_VarnumCut.j0
      repeat' first
      | (with_reducible exact ih0 _ _ _ _)
      | (with_reducible exact incunablelaw01_works.mono _)
      | (with_reducible exact varnum_Num.mono _ _)
      | (with_reducible exact varnum_TakeNum.mono _ _)
      | (with_reducible exact varnum_TakeText.mono _ _ _)
      | (with_reducible exact varnum_Text.mono _ _ _)
      | (with_reducible exact LeO.refl _)
      | (with_reducible exact LeO.none _)
      | (with_reducible refine LeO.ite ?_ ?_)
      | (with_reducible refine LeO.bind ?_ (fun _ => ?_))
      | exact ih0 _ _ _ _
      | exact incunablelaw01_works.mono _
      | exact varnum_Num.mono _ _
      | exact varnum_TakeNum.mono _ _
      | exact varnum_TakeText.mono _ _ _
      | exact varnum_Text.mono _ _ _
      | exact LeO.none _
      | refine LeO.ite ?_ ?_
      | refine LeO.bind ?_ (fun _ => ?_)
theorem incunablelaw01_VarnumCut.mono : ∀ a0 a1 a2 k, LeO (incunablelaw01_VarnumCut.f k a0 a1 a2) (incunablelaw01_VarnumCut.f (k + 1) a0 a1 a2) := by
  intro a0 a1 a2 k
  have ih0 := incunablelaw01_VarnumCut.mono_l k
  unfold incunablelaw01_VarnumCut.f
  repeat' first
      | (with_reducible exact ih0 _ _ _ _)
      | (with_reducible exact incunablelaw01_works.mono _)
      | (with_reducible exact varnum_Num.mono _ _)
      | (with_reducible exact varnum_TakeNum.mono _ _)
      | (with_reducible exact varnum_TakeText.mono _ _ _)
      | (with_reducible exact varnum_Text.mono _ _ _)
      | (with_reducible exact LeO.refl _)
      | (with_reducible exact LeO.none _)
      | (with_reducible refine LeO.ite ?_ ?_)
      | (with_reducible refine LeO.bind ?_ (fun _ => ?_))
      | exact ih0 _ _ _ _
      | exact incunablelaw01_works.mono _
      | exact varnum_Num.mono _ _
      | exact varnum_TakeNum.mono _ _
      | exact varnum_TakeText.mono _ _ _
      | exact varnum_Text.mono _ _ _
      | exact LeO.none _
      | refine LeO.ite ?_ ?_
      | refine LeO.bind ?_ (fun _ => ?_)
set_option maxHeartbeats 8000000 in
set_option maxRecDepth 100000 in
theorem incunablelaw01_VarnumCut.calls (k : Nat) (a0 : Int) (A1 : Option Addr) (c1 : Nat) (l1 : List Int) (a2 : Int) (r : Bool) (w : World) (hr1 : Kd.C (Kd.int .u8) w A1 l1.length l1) (hc1 : l1.length ≤ c1) (h : incunablelaw01_VarnumCut.f k a0 l1 a2 = some r) :
    Calls Try.prog 7 #[.int .i64 a0, .slice A1 l1.length c1, .int .i64 a2] w fun e w' => e = .returned (.bool r) ∧ Below w.heap.size w w' := by
  have HR1 := Aside0.mk hr1
  have HC1 := Aside0.mk hc1
  clear hr1 hc1
  have HB := Aside0.mk (Below.refl w.heap.size w)
  have H : ((incunablelaw01_works.f k).bind fun t408 => (if t408 = true then ((incunablelaw01_number.f a0).bind fun t409 => ((varnum_Num.f k t409).bind fun bt410 => (if 0 ≤ (mn (l1.length : Int) 5000) then (if (mn (l1.length : Int) 5000) ≤ (l1.length : Int) then ((varnum_Text.f k (l1.take ((mn (l1.length : Int) 5000) : Int).toNat) 5000).bind fun bt415 => (if bt410.2 = 0 then (if bt415.2 = 0 then (if (bt410.1.length : Int) = 0 then (incunablelaw01_VarnumCut.j0 k a2 bt410.1 bt415.1 true) else (incunablelaw01_VarnumCut.j0 k a2 bt410.1 bt415.1 ((bt415.1.length : Int) == 0))) else (incunablelaw01_VarnumCut.j0 k a2 bt410.1 bt415.1 true)) else (incunablelaw01_VarnumCut.j0 k a2 bt410.1 bt415.1 true))) else (none)) else (none)))) else (none))) = some r := h
  clear h
  replace H := Option.bind_eq_some_iff.mp H
  obtain ⟨t408, A40, H⟩ := H
  replace H : (if t408 = true then ((incunablelaw01_number.f a0).bind fun t409 => ((varnum_Num.f k t409).bind fun bt410 => (if 0 ≤ (mn (l1.length : Int) 5000) then (if (mn (l1.length : Int) 5000) ≤ (l1.length : Int) then ((varnum_Text.f k (l1.take ((mn (l1.length : Int) 5000) : Int).toNat) 5000).bind fun bt415 => (if bt410.2 = 0 then (if bt415.2 = 0 then (if (bt410.1.length : Int) = 0 then (incunablelaw01_VarnumCut.j0 k a2 bt410.1 bt415.1 true) else (incunablelaw01_VarnumCut.j0 k a2 bt410.1 bt415.1 ((bt415.1.length : Int) == 0))) else (incunablelaw01_VarnumCut.j0 k a2 bt410.1 bt415.1 true)) else (incunablelaw01_VarnumCut.j0 k a2 bt410.1 bt415.1 true))) else (none)) else (none)))) else (none)) = some r := H
  have A4 := Aside0.mk A40
  clear A40
  by_cases c5 : t408 = true
  · subst c5
    have H1 : ((incunablelaw01_number.f a0).bind fun t409 => ((varnum_Num.f k t409).bind fun bt410 => (if 0 ≤ (mn (l1.length : Int) 5000) then (if (mn (l1.length : Int) 5000) ≤ (l1.length : Int) then ((varnum_Text.f k (l1.take ((mn (l1.length : Int) 5000) : Int).toNat) 5000).bind fun bt415 => (if bt410.2 = 0 then (if bt415.2 = 0 then (if (bt410.1.length : Int) = 0 then (incunablelaw01_VarnumCut.j0 k a2 bt410.1 bt415.1 true) else (incunablelaw01_VarnumCut.j0 k a2 bt410.1 bt415.1 ((bt415.1.length : Int) == 0))) else (incunablelaw01_VarnumCut.j0 k a2 bt410.1 bt415.1 true)) else (incunablelaw01_VarnumCut.j0 k a2 bt410.1 bt415.1 true))) else (none)) else (none)))) = some r := by rw [if_pos rfl] at H; exact H
    clear H
    have H := H1
    clear H1
    replace H := Option.bind_eq_some_iff.mp H
    obtain ⟨t409, A60, H⟩ := H
    replace H : ((varnum_Num.f k t409).bind fun bt410 => (if 0 ≤ (mn (l1.length : Int) 5000) then (if (mn (l1.length : Int) 5000) ≤ (l1.length : Int) then ((varnum_Text.f k (l1.take ((mn (l1.length : Int) 5000) : Int).toNat) 5000).bind fun bt415 => (if bt410.2 = 0 then (if bt415.2 = 0 then (if (bt410.1.length : Int) = 0 then (incunablelaw01_VarnumCut.j0 k a2 bt410.1 bt415.1 true) else (incunablelaw01_VarnumCut.j0 k a2 bt410.1 bt415.1 ((bt415.1.length : Int) == 0))) else (incunablelaw01_VarnumCut.j0 k a2 bt410.1 bt415.1 true)) else (incunablelaw01_VarnumCut.j0 k a2 bt410.1 bt415.1 true))) else (none)) else (none))) = some r := H
    have A6 := Aside0.mk A60
    clear A60
    replace H := Option.bind_eq_some_iff.mp H
    obtain ⟨⟨t410, t411⟩, A70, H⟩ := H
    replace H : (if 0 ≤ (mn (l1.length : Int) 5000) then (if (mn (l1.length : Int) 5000) ≤ (l1.length : Int) then ((varnum_Text.f k (l1.take ((mn (l1.length : Int) 5000) : Int).toNat) 5000).bind fun bt415 => (if t411 = 0 then (if bt415.2 = 0 then (if (t410.length : Int) = 0 then (incunablelaw01_VarnumCut.j0 k a2 t410 bt415.1 true) else (incunablelaw01_VarnumCut.j0 k a2 t410 bt415.1 ((bt415.1.length : Int) == 0))) else (incunablelaw01_VarnumCut.j0 k a2 t410 bt415.1 true)) else (incunablelaw01_VarnumCut.j0 k a2 t410 bt415.1 true))) else (none)) else (none)) = some r := H
    have A7 := Aside0.mk A70
    clear A70
    obtain ⟨ji8, hji8⟩ : ∃ j_ : Int, (mn (l1.length : Int) 5000) = j_ := ⟨_, rfl⟩
    replace H : (if 0 ≤ (ji8) then (if (ji8) ≤ (l1.length : Int) then ((varnum_Text.f k (l1.take ((ji8) : Int).toNat) 5000).bind fun bt415 => (if t411 = 0 then (if bt415.2 = 0 then (if (t410.length : Int) = 0 then (incunablelaw01_VarnumCut.j0 k a2 t410 bt415.1 true) else (incunablelaw01_VarnumCut.j0 k a2 t410 bt415.1 ((bt415.1.length : Int) == 0))) else (incunablelaw01_VarnumCut.j0 k a2 t410 bt415.1 true)) else (incunablelaw01_VarnumCut.j0 k a2 t410 bt415.1 true))) else (none)) else (none)) = some r := by first | (rw [hji8] at H; exact H) | (simp only [hji8] at H ⊢; exact H)
    (try rw [hji8] at A4)
    (try rw [hji8] at A6)
    (try rw [hji8] at A7)
    (try (have hji8h : ji8 ≤ 5000 := by (rw [← hji8]; unfold mn; (repeat' split) <;> omega)))
    (try (have hji8g : ji8 ≤ 64 := by omega))
    (try (have hji8l : 0 ≤ ji8 := by (rw [← hji8]; unfold mn; (repeat' split) <;> omega)))
    (try (have hji8m : 0 ≤ ji8 := by omega))
    have hji8_ : (if 5000 < (l1.length : Int) then 5000 else (l1.length : Int)) = ji8 := hji8
    by_cases c9 : 0 ≤ (ji8)
    · rw [if_pos c9] at H
      have c9b0 := eq_true c9
      have c9b1 : decide (0 ≤ (ji8)) = true := decide_eq_true c9
      clear c9
      by_cases c10 : (ji8) ≤ (l1.length : Int)
      · rw [if_pos c10] at H
        have c10b0 := eq_true c10
        have c10b1 : decide ((ji8) ≤ (l1.length : Int)) = true := decide_eq_true c10
        clear c10
        replace H := Option.bind_eq_some_iff.mp H
        obtain ⟨⟨t415, t416⟩, A110, H⟩ := H
        replace H : (if t411 = 0 then (if t416 = 0 then (if (t410.length : Int) = 0 then (incunablelaw01_VarnumCut.j0 k a2 t410 t415 true) else (incunablelaw01_VarnumCut.j0 k a2 t410 t415 ((t415.length : Int) == 0))) else (incunablelaw01_VarnumCut.j0 k a2 t410 t415 true)) else (incunablelaw01_VarnumCut.j0 k a2 t410 t415 true)) = some r := H
        have A11 := Aside0.mk A110
        clear A110
        have HC12 := Aside0.mk H
        clear H
        go_enter Try.func7, Try.ntmps7
        go_upto_region 5 with (first | ((with_reducible refine gate_callee (f := 19) rfl ?_); refine goesL_ (some 17) rfl rfl Try.func19 (by kernel_rfl) rfl #[] rfl (by (try simp only [List.map_toArray, List.map_cons, List.map_nil]); first | done | rfl | (simp only [List.length_drop, List.length_take]; rfl)) ?_; (with_reducible refine (incunablelaw01_works.calls k  true _ A4.out).mono ?_); rintro e w13 ⟨rfl, hb⟩; refine ⟨_, rfl, ?_⟩; have n0_ := Aside0.mk (below_step (by repeat (first | (with_reducible first | exact HB.out | apply below_alloc | apply pw_below_drewN | apply below_drew1) | exact HB.out)) hb); clear HB; have HB := n0_; clear n0_; (try clear hb); (try clear hb2); (try clear hk); (try clear hi)) | ((with_reducible refine gate_callee (f := 24) rfl ?_); refine goesL_ (some 21) rfl rfl Try.func24 (by kernel_rfl) rfl #[.int .i64 a0] rfl (by (try simp only [List.map_toArray, List.map_cons, List.map_nil]); first | done | rfl | (simp only [List.length_drop, List.length_take]; rfl)) ?_; (with_reducible refine (incunablelaw01_number.calls a0 t409 _ A6.out).mono ?_); rintro e w' ⟨rfl, ⟨nd, rfl⟩⟩; refine ⟨_, rfl, ?_⟩) | ((with_reducible refine gate_callee (f := 12) rfl ?_); refine goesL_ (some 22) rfl rfl Try.func12 (by kernel_rfl) rfl #[.int .i64 t409] rfl (by (try simp only [List.map_toArray, List.map_cons, List.map_nil]); first | done | rfl | (simp only [List.length_drop, List.length_take]; rfl)) ?_; (with_reducible refine (varnum_Num.calls k t409 t410 t411 _ A7.out).mono ?_); rintro e w14 ⟨v412, rfl, ho0, hb⟩; refine ⟨_, rfl, ?_⟩; have n0_ := Aside0.mk (Kd.R_lower ho0 (below_size (by repeat (first | (with_reducible first | exact HB.out | apply below_alloc | apply pw_below_drewN | apply below_drew1) | exact HB.out)))); have n1_ := Aside0.mk (below_step (by repeat (first | (with_reducible first | exact HB.out | apply below_alloc | apply pw_below_drewN | apply below_drew1) | exact HB.out)) hb); clear HB; have HO413 := n0_; have HB := n1_; clear n0_ n1_; (try clear hb); (try clear hb2); (try clear hk); (try clear hi); (try clear ho0); obtain ⟨i015, hi015, _, hsz15, _⟩ := info_parts info5; obtain ⟨hcut15, hA15, hC15⟩ := print_take_of (P := Try.prog) (Value.int .u8) 0 22 5 .i64 Try.underlying22 hi015 hsz15 A1 c1 l1 (ji8) (of_decide_eq_true (by first | (with_reducible assumption) | assumption)) (of_decide_eq_true (by first | (with_reducible assumption) | assumption)) HC1.out; have HR414 := Aside0.mk (Kd.C_of_reads (h1 := fun _ => rfl) (hA15 _ (Kd.reads_of_C HR1.out))); have HC414 := Aside0.mk hC15; clear hA15 hC15 hi015 hsz15) | ((with_reducible refine gate_callee (f := 20) rfl ?_); refine goesL_ (some 31) rfl rfl Try.func20 (by kernel_rfl) rfl #[.slice A1 (l1.take ((ji8) : Int).toNat).length c1, .int .i64 5000] rfl (by (try simp only [List.map_toArray, List.map_cons, List.map_nil]); first | done | (rw [show (l1.take ((ji8) : Int).toNat).length = (ji8).toNat from (by rw [List.length_take]; have h_ : ((ji8) : Int) ≤ (l1.length : Int) := (by first | exact of_decide_eq_true (by first | (with_reducible assumption) | assumption) | (have h2_ := hji8_; split at h2_ <;> omega)); omega)] <;> rfl) | (simp only [hji8]; rfl) | rfl | (simp only [List.length_drop, List.length_take]; rfl)) ?_; (with_reducible refine (varnum_Text.calls k _ _ (l1.take ((ji8) : Int).toNat) 5000 t415 t416 _ ?side1 ?side2 A11.out).mono ?_); (case side1 => repeat (first | exact (Kd.C_below HR414.out HB.out) | (with_reducible refine Kd.C_alloc ?_ _) | (with_reducible refine Kd.C_drewN ?_ _) | (with_reducible refine Kd.C_drew ?_))); (case side2 => exact HC414.out); rintro e w16 ⟨v417, rfl, ho0, hb⟩; refine ⟨_, rfl, ?_⟩; have n0_ := Aside0.mk (Kd.R_elder' (by (with_reducible repeat (first | apply Kd.R_alloc | apply Kd.R_drewN | apply Kd.R_drew)); exact HO413.out) (Kd.R_base ho0) hb); have n1_ := Aside0.mk (Kd.R_lower (Kd.R_new' ho0 (Kd.R_lt (by (with_reducible repeat (first | apply Kd.R_alloc | apply Kd.R_drewN | apply Kd.R_drew)); exact HO413.out))) (below_size (by repeat (first | (with_reducible first | exact HB.out | apply below_alloc | apply pw_below_drewN | apply below_drew1) | exact HB.out)))); have n2_ := Aside0.mk (below_step (by repeat (first | (with_reducible first | exact HB.out | apply below_alloc | apply pw_below_drewN | apply below_drew1) | exact HB.out)) hb); clear HO413; clear HB; have HO413 := n0_; have HO418 := n1_; have HB := n2_; clear n0_ n1_ n2_; (try clear hb); (try clear hb2); (try clear hk); (try clear hi); (try clear ho0)))
        (try simp only [Act.put, List.setIfInBounds_toArray, List.set_cons_zero, List.set_cons_succ])
        go_cut [49] (fun v49 wc => ∃ (kq : Nat) (x49_11 : Bool), v49 = .bool x49_11 ∧ Aside0 (incunablelaw01_VarnumCut.j0 kq a2 t410 t415 x49_11 = some r) ∧ Aside0 (kq ≤ k) ∧ Aside0 (Kd.R (Kd.int .u8) 5 wc w.heap.size (fun k_ => some k_ ≠ (v417 : Value).ownBlock) v412 t410) ∧ Aside0 (Kd.R (Kd.int .u8) 5 wc w.heap.size (fun k_ => some k_ ≠ (v412 : Value).ownBlock) v417 t415) ∧ Aside0 (Below w.heap.size w wc))
        case first =>
          have H := HC12.out
          clear HC12
          by_cases c17 : t411 = 0
          · rw [if_pos c17] at H
            have c17b0 : (t411 == 0) = true := beq_iff_eq.mpr c17
            have c17b1 : (t411 != 0) = false := bne_eq_false_iff_eq.mpr c17
            clear c17
            (first | rw [c17b0] | (simp only [i64_w, i32_w]; rw [c17b0]) | skip)
            by_cases c18 : t416 = 0
            · rw [if_pos c18] at H
              have c18b0 : (t416 == 0) = true := beq_iff_eq.mpr c18
              have c18b1 : (t416 != 0) = false := bne_eq_false_iff_eq.mpr c18
              clear c18
              by_cases c19 : (t410.length : Int) = 0
              · rw [if_pos c19] at H
                have c19b0 : ((t410.length : Int) == 0) = true := beq_iff_eq.mpr c19
                have c19b1 : ((t410.length : Int) != 0) = false := bne_eq_false_iff_eq.mpr c19
                clear c19
                have H' := Aside0.mk H
                clear H
                obtain ⟨Ao20, co20, eo20⟩ := Kd.R_slice HO413.out
                subst eo20
                go_wp2
                go_meet
                case rel => exact ⟨_, (true), (by first | rfl | (simp; done) | (simp [*]; done)), H', ⟨by first | omega | exact Nat.le_refl _⟩, ⟨by (with_reducible repeat (first | apply Kd.R_alloc | apply Kd.R_drewN | apply Kd.R_drew)); exact Kd.R_mono HO413.out (fun _ hk => hk.2)⟩, ⟨by (with_reducible repeat (first | apply Kd.R_alloc | apply Kd.R_drewN | apply Kd.R_drew)); exact Kd.R_mono HO418.out (fun _ hk => hk.2)⟩, ⟨by repeat (first | (with_reducible first | exact HB.out | apply below_alloc | apply pw_below_drewN | apply below_drew1) | exact HB.out)⟩⟩
              · rw [if_neg c19] at H
                have c19b0 : ((t410.length : Int) == 0) = false := beq_eq_false_iff_ne.mpr c19
                have c19b1 : ((t410.length : Int) != 0) = true := bne_iff_ne.mpr c19
                have c19b2 : ¬ (t410 = []) := fun h_ => c19 (by rw [h_]; rfl)
                have H' := Aside0.mk H
                clear H
                obtain ⟨Ao21, co21, eo21⟩ := Kd.R_slice HO413.out
                subst eo21
                obtain ⟨Ao22, co22, eo22⟩ := Kd.R_slice HO418.out
                subst eo22
                go_wp2
                go_meet
                case rel => exact ⟨_, (((t415.length : Int) == 0)), (by first | rfl | (simp; done) | (simp [*]; done)), H', ⟨by first | omega | exact Nat.le_refl _⟩, ⟨by (with_reducible repeat (first | apply Kd.R_alloc | apply Kd.R_drewN | apply Kd.R_drew)); exact Kd.R_mono HO413.out (fun _ hk => hk.2)⟩, ⟨by (with_reducible repeat (first | apply Kd.R_alloc | apply Kd.R_drewN | apply Kd.R_drew)); exact Kd.R_mono HO418.out (fun _ hk => hk.2)⟩, ⟨by repeat (first | (with_reducible first | exact HB.out | apply below_alloc | apply pw_below_drewN | apply below_drew1) | exact HB.out)⟩⟩
            · rw [if_neg c18] at H
              have c18b0 : (t416 == 0) = false := beq_eq_false_iff_ne.mpr c18
              have c18b1 : (t416 != 0) = true := bne_iff_ne.mpr c18
              have H' := Aside0.mk H
              clear H
              go_wp2
              go_meet
              case rel => exact ⟨_, (true), (by first | rfl | (simp; done) | (simp [*]; done)), H', ⟨by first | omega | exact Nat.le_refl _⟩, ⟨by (with_reducible repeat (first | apply Kd.R_alloc | apply Kd.R_drewN | apply Kd.R_drew)); exact Kd.R_mono HO413.out (fun _ hk => hk.2)⟩, ⟨by (with_reducible repeat (first | apply Kd.R_alloc | apply Kd.R_drewN | apply Kd.R_drew)); exact Kd.R_mono HO418.out (fun _ hk => hk.2)⟩, ⟨by repeat (first | (with_reducible first | exact HB.out | apply below_alloc | apply pw_below_drewN | apply below_drew1) | exact HB.out)⟩⟩
          · rw [if_neg c17] at H
            have c17b0 : (t411 == 0) = false := beq_eq_false_iff_ne.mpr c17
            have c17b1 : (t411 != 0) = true := bne_iff_ne.mpr c17
            (first | rw [c17b0] | (simp only [i64_w, i32_w]; rw [c17b0]) | skip)
            have H' := Aside0.mk H
            clear H
            go_wp2
            go_meet
            case rel => exact ⟨_, (true), (by first | rfl | (simp; done) | (simp [*]; done)), H', ⟨by first | omega | exact Nat.le_refl _⟩, ⟨by (with_reducible repeat (first | apply Kd.R_alloc | apply Kd.R_drewN | apply Kd.R_drew)); exact Kd.R_mono HO413.out (fun _ hk => hk.2)⟩, ⟨by (with_reducible repeat (first | apply Kd.R_alloc | apply Kd.R_drewN | apply Kd.R_drew)); exact Kd.R_mono HO418.out (fun _ hk => hk.2)⟩, ⟨by repeat (first | (with_reducible first | exact HB.out | apply below_alloc | apply pw_below_drewN | apply below_drew1) | exact HB.out)⟩⟩
        case rest =>
          clear HC12
          try clear c1
          try clear c2
          try clear p2
          try clear c5
          try clear c7
          try clear c9
          try clear c9b0
          try clear c9b1
          try clear c10
          try clear c10b0
          try clear c10b1
          try clear c12
          try clear c17
          try clear c17b0
          try clear c17b1
          try clear c18
          try clear c18b0
          try clear c18b1
          try clear c19
          try clear c19b0
          try clear c19b1
          try clear c19b2
          try clear c20
          obtain ⟨kq, x49_11, rfl, HA, HJ11, HO_7, HO_9, HB⟩ := hcut
          cases kq with
          | zero => exact absurd HA.out (by simp [incunablelaw01_VarnumCut.j0])
          | succ kj11 =>
            have H := HA.out
            clear HA
            simp only [incunablelaw01_VarnumCut.j0] at H
            by_cases c23 : x49_11 = true
            · subst c23
              have H1 : (none) = some r := by rw [if_pos rfl] at H; exact H
              clear H
              have H := H1
              clear H1
              exact absurd H (by simp)
            · replace c23 := Bool.eq_false_iff.mpr c23
              subst c23
              have H1 : ((incunableref00_Bring.f a2 (t410.length : Int)).bind fun t419 => (if 0 ≤ t419 then (if t419 ≤ (t410.length : Int) then ((varnum_TakeNum.f kj11 (t410.take (t419 : Int).toNat)).bind fun bt424 => ((incunableref00_Bring.f a2 (t415.length : Int)).bind fun t429 => (if 0 ≤ t429 then (if t429 ≤ (t415.length : Int) then ((varnum_TakeText.f kj11 (t415.take (t429 : Int).toNat) 5000).bind fun bt434 => (if bt424.2.2 = 3 then (some (bt434.2.2 == 3)) else (none))) else (none)) else (none)))) else (none)) else (none))) = some r := by rw [if_neg (show ¬ (false = true) by decide)] at H; exact H
              clear H
              have H := H1
              clear H1
              replace H := Option.bind_eq_some_iff.mp H
              obtain ⟨t419, A240, H⟩ := H
              replace H : (if 0 ≤ t419 then (if t419 ≤ (t410.length : Int) then ((varnum_TakeNum.f kj11 (t410.take (t419 : Int).toNat)).bind fun bt424 => ((incunableref00_Bring.f a2 (t415.length : Int)).bind fun t429 => (if 0 ≤ t429 then (if t429 ≤ (t415.length : Int) then ((varnum_TakeText.f kj11 (t415.take (t429 : Int).toNat) 5000).bind fun bt434 => (if bt424.2.2 = 3 then (some (bt434.2.2 == 3)) else (none))) else (none)) else (none)))) else (none)) else (none)) = some r := H
              have A24 := Aside0.mk A240
              clear A240
              by_cases c25 : 0 ≤ t419
              · rw [if_pos c25] at H
                have c25b0 := eq_true c25
                have c25b1 : decide (0 ≤ t419) = true := decide_eq_true c25
                clear c25
                by_cases c26 : t419 ≤ (t410.length : Int)
                · rw [if_pos c26] at H
                  have c26b0 := eq_true c26
                  have c26b1 : decide (t419 ≤ (t410.length : Int)) = true := decide_eq_true c26
                  clear c26
                  obtain ⟨y420, hy420⟩ : ∃ y_ : List Int, y_ = (t410.take (t419 : Int).toNat) := ⟨_, rfl⟩
                  replace H : ((varnum_TakeNum.f kj11 y420).bind fun bt424 => ((incunableref00_Bring.f a2 (t415.length : Int)).bind fun t429 => (if 0 ≤ t429 then (if t429 ≤ (t415.length : Int) then ((varnum_TakeText.f kj11 (t415.take (t429 : Int).toNat) 5000).bind fun bt434 => (if bt424.2.2 = 3 then (some (bt434.2.2 == 3)) else (none))) else (none)) else (none)))) = some r := by first | (rw [hy420]; with_reducible exact H) | (have H2_ := (Option.bind_some _ _).symm.trans H; rw [hy420]; with_reducible exact H2_) | (have H2_ := (Option.bind_some _ _).symm.trans H; with_reducible exact H2_) | with_reducible exact H | (rw [hy420]; exact H) | exact H
                  have Ny420 := Aside0.mk hy420
                  clear hy420
                  replace H := Option.bind_eq_some_iff.mp H
                  obtain ⟨⟨t424, t425, t426⟩, A270, H⟩ := H
                  replace H : ((incunableref00_Bring.f a2 (t415.length : Int)).bind fun t429 => (if 0 ≤ t429 then (if t429 ≤ (t415.length : Int) then ((varnum_TakeText.f kj11 (t415.take (t429 : Int).toNat) 5000).bind fun bt434 => (if t426 = 3 then (some (bt434.2.2 == 3)) else (none))) else (none)) else (none))) = some r := H
                  have A27 := Aside0.mk A270
                  clear A270
                  replace H := Option.bind_eq_some_iff.mp H
                  obtain ⟨t429, A280, H⟩ := H
                  replace H : (if 0 ≤ t429 then (if t429 ≤ (t415.length : Int) then ((varnum_TakeText.f kj11 (t415.take (t429 : Int).toNat) 5000).bind fun bt434 => (if t426 = 3 then (some (bt434.2.2 == 3)) else (none))) else (none)) else (none)) = some r := H
                  have A28 := Aside0.mk A280
                  clear A280
                  by_cases c29 : 0 ≤ t429
                  · rw [if_pos c29] at H
                    have c29b0 := eq_true c29
                    have c29b1 : decide (0 ≤ t429) = true := decide_eq_true c29
                    clear c29
                    by_cases c30 : t429 ≤ (t415.length : Int)
                    · rw [if_pos c30] at H
                      have c30b0 := eq_true c30
                      have c30b1 : decide (t429 ≤ (t415.length : Int)) = true := decide_eq_true c30
                      clear c30
                      obtain ⟨y430, hy430⟩ : ∃ y_ : List Int, y_ = (t415.take (t429 : Int).toNat) := ⟨_, rfl⟩
                      replace H : ((varnum_TakeText.f kj11 y430 5000).bind fun bt434 => (if t426 = 3 then (some (bt434.2.2 == 3)) else (none))) = some r := by first | (rw [hy430]; with_reducible exact H) | (have H2_ := (Option.bind_some _ _).symm.trans H; rw [hy430]; with_reducible exact H2_) | (have H2_ := (Option.bind_some _ _).symm.trans H; with_reducible exact H2_) | with_reducible exact H | (rw [hy430]; exact H) | exact H
                      have Ny430 := Aside0.mk hy430
                      clear hy430
                      replace H := Option.bind_eq_some_iff.mp H
                      obtain ⟨⟨t434, t435, t436⟩, A310, H⟩ := H
                      replace H : (if t426 = 3 then (some (t436 == 3)) else (none)) = some r := H
                      have A31 := Aside0.mk A310
                      clear A310
                      by_cases c32 : t426 = 3
                      · rw [if_pos c32] at H
                        have c32b0 : (t426 == 3) = true := beq_iff_eq.mpr c32
                        have c32b1 : (t426 != 3) = false := bne_eq_false_iff_eq.mpr c32
                        clear c32
                        obtain rfl := Option.some.inj H
                        obtain ⟨Ao33, co33, eo33⟩ := Kd.R_slice HO_7.out
                        subst eo33
                        go_wp2_with (first | ((with_reducible refine gate_callee (f := 25) rfl ?_); refine goesL_ (some 55) rfl rfl Try.func25 (by kernel_rfl) rfl #[.int .i64 a2, .int .i64 (t410.length : Int)] rfl (by (try simp only [List.map_toArray, List.map_cons, List.map_nil]); first | done | rfl | (simp only [List.length_drop, List.length_take]; rfl)) ?_; (with_reducible refine (incunableref00_Bring.calls a2 (t410.length : Int) t419 _ A24.out).mono ?_); rintro e w' ⟨rfl, ⟨nd, rfl⟩⟩; refine ⟨_, rfl, ?_⟩; have q34 : (t419 : Int) ≤ ((t410.length : Int) : Int) := of_decide_eq_true (by first | (with_reducible assumption) | assumption); obtain ⟨i034, hi034, _, hsz34, _⟩ := info_parts info5; have hroom34 : t410.length ≤ co33 := (Kd.R_reads' HO_7.out).2.1; have hC34 : Kd.C (Kd.int .u8) _ Ao33 t410.length t410 := (Kd.R_reads' HO_7.out).2.2; have hcut34 := cut_to (P := Try.prog) 22 5 .i64 Try.underlying22 hi034 Ao33 t410.length co33 t419 (of_decide_eq_true (by first | (with_reducible assumption) | assumption)) q34 hroom34; have hr34 := Kd.C_take (m := (t419 : Int).toNat) hC34 (by omega); have hy34 : y420.length = (t419 : Int).toNat := (by rw [Ny420.out, List.length_take]; omega); rw [← Ny420.out] at hr34; rw [← hy34] at hcut34; have HR423 := Aside0.mk hr34; have HC423 := Aside0.mk (show y420.length ≤ co33 from by omega); clear hr34 hC34 hroom34 hi034 hsz34; have KY34 := Aside0.mk hy34; clear hy34; have KL34 := Aside0.mk (show (t419 : Int).toNat ≤ t410.length from by omega); replace q34 := eq_true q34) | ((with_reducible refine gate_callee (f := 15) rfl ?_); refine goesL_ (some 57) rfl rfl Try.func15 (by kernel_rfl) rfl #[.slice Ao33 y420.length co33] rfl (by (try simp only [List.map_toArray, List.map_cons, List.map_nil]); first | done | rfl | (simp only [List.length_drop, List.length_take]; rfl)) ?_; (with_reducible refine (varnum_TakeNum.calls kj11 _ _ y420 t424 t425 t426 _ ?side1 ?side2 A27.out).mono ?_); (case side1 => repeat (first | exact (by repeat (first | (with_reducible exact HR423.out) | (with_reducible refine Kd.C_alloc ?_ _) | (with_reducible refine Kd.C_drewN ?_ _) | (with_reducible refine Kd.C_drew ?_) | exact HR423.out)) | (with_reducible refine Kd.C_alloc ?_ _) | (with_reducible refine Kd.C_drewN ?_ _) | (with_reducible refine Kd.C_drew ?_))); (case side2 => exact HC423.out); rintro e w35 ⟨v427, rfl, ho0, hb⟩; refine ⟨_, rfl, ?_⟩; have n0_ := Aside0.mk (Kd.R_elder' (by (with_reducible repeat (first | apply Kd.R_alloc | apply Kd.R_drewN | apply Kd.R_drew)); exact HO_7.out) (Kd.R_base ho0) hb); have n1_ := Aside0.mk (Kd.R_elder' (by (with_reducible repeat (first | apply Kd.R_alloc | apply Kd.R_drewN | apply Kd.R_drew)); exact HO_9.out) (Kd.R_base ho0) hb); have n2_ := Aside0.mk (Kd.R_lower (Kd.R_new' (Kd.R_new' ho0 (Kd.R_lt (by (with_reducible repeat (first | apply Kd.R_alloc | apply Kd.R_drewN | apply Kd.R_drew)); exact HO_7.out))) (Kd.R_lt (by (with_reducible repeat (first | apply Kd.R_alloc | apply Kd.R_drewN | apply Kd.R_drew)); exact HO_9.out))) (below_size (by repeat (first | (with_reducible first | exact HB.out | apply below_alloc | apply pw_below_drewN | apply below_drew1) | exact HB.out)))); have n3_ := Aside0.mk (Kd.C_below (by repeat (first | (with_reducible exact HR423.out) | (with_reducible refine Kd.C_alloc ?_ _) | (with_reducible refine Kd.C_drewN ?_ _) | (with_reducible refine Kd.C_drew ?_) | exact HR423.out)) hb); have n4_ := Aside0.mk (below_step (by repeat (first | (with_reducible first | exact HB.out | apply below_alloc | apply pw_below_drewN | apply below_drew1) | exact HB.out)) hb); clear HO_7; clear HO_9; clear HR423; clear HB; have HO_7 := n0_; have HO_9 := n1_; have HO428 := n2_; have HR423 := n3_; have HB := n4_; clear n0_ n1_ n2_ n3_ n4_; (try clear hb); (try clear hb2); (try clear hk); (try clear hi); (try clear ho0); obtain ⟨Ao36, co36, eo36⟩ := Kd.R_slice HO_9.out; subst eo36) | ((with_reducible refine gate_callee (f := 25) rfl ?_); refine goesL_ (some 66) rfl rfl Try.func25 (by kernel_rfl) rfl #[.int .i64 a2, .int .i64 (t415.length : Int)] rfl (by (try simp only [List.map_toArray, List.map_cons, List.map_nil]); first | done | rfl | (simp only [List.length_drop, List.length_take]; rfl)) ?_; (with_reducible refine (incunableref00_Bring.calls a2 (t415.length : Int) t429 _ A28.out).mono ?_); rintro e w' ⟨rfl, ⟨nd, rfl⟩⟩; refine ⟨_, rfl, ?_⟩; have q37 : (t429 : Int) ≤ ((t415.length : Int) : Int) := of_decide_eq_true (by first | (with_reducible assumption) | assumption); obtain ⟨i037, hi037, _, hsz37, _⟩ := info_parts info5; have hroom37 : t415.length ≤ co36 := (Kd.R_reads' HO_9.out).2.1; have hC37 : Kd.C (Kd.int .u8) _ Ao36 t415.length t415 := (Kd.R_reads' HO_9.out).2.2; have hcut37 := cut_to (P := Try.prog) 22 5 .i64 Try.underlying22 hi037 Ao36 t415.length co36 t429 (of_decide_eq_true (by first | (with_reducible assumption) | assumption)) q37 hroom37; have hr37 := Kd.C_take (m := (t429 : Int).toNat) hC37 (by omega); have hy37 : y430.length = (t429 : Int).toNat := (by rw [Ny430.out, List.length_take]; omega); rw [← Ny430.out] at hr37; rw [← hy37] at hcut37; have HR433 := Aside0.mk hr37; have HC433 := Aside0.mk (show y430.length ≤ co36 from by omega); clear hr37 hC37 hroom37 hi037 hsz37; have KY37 := Aside0.mk hy37; clear hy37; have KL37 := Aside0.mk (show (t429 : Int).toNat ≤ t415.length from by omega); replace q37 := eq_true q37) | ((with_reducible refine gate_callee (f := 22) rfl ?_); refine goesL_ (some 68) rfl rfl Try.func22 (by kernel_rfl) rfl #[.slice Ao36 y430.length co36, .int .i64 5000] rfl (by (try simp only [List.map_toArray, List.map_cons, List.map_nil]); first | done | rfl | (simp only [List.length_drop, List.length_take]; rfl)) ?_; (with_reducible refine (varnum_TakeText.calls kj11 _ _ y430 5000 t434 t435 t436 _ ?side1 ?side2 A31.out).mono ?_); (case side1 => repeat (first | exact (by repeat (first | (with_reducible exact HR433.out) | (with_reducible refine Kd.C_alloc ?_ _) | (with_reducible refine Kd.C_drewN ?_ _) | (with_reducible refine Kd.C_drew ?_) | exact HR433.out)) | (with_reducible refine Kd.C_alloc ?_ _) | (with_reducible refine Kd.C_drewN ?_ _) | (with_reducible refine Kd.C_drew ?_))); (case side2 => exact HC433.out); rintro e w38 ⟨v437, v439, rfl, ho0, ho1, hb⟩; refine ⟨_, rfl, ?_⟩; have n0_ := Aside0.mk (Kd.R_mono (Kd.R_told (Kd.R_told (Kd.R_old (by (with_reducible repeat (first | apply Kd.R_alloc | apply Kd.R_drewN | apply Kd.R_drew)); exact HO_7.out) hb) (Kd.R_base ho0)) (Kd.R_base ho1)) (fun _ h_ => h_.1)); have n1_ := Aside0.mk (Kd.R_mono (Kd.R_told (Kd.R_told (Kd.R_old (by (with_reducible repeat (first | apply Kd.R_alloc | apply Kd.R_drewN | apply Kd.R_drew)); exact HO_9.out) hb) (Kd.R_base ho0)) (Kd.R_base ho1)) (fun _ h_ => h_.1)); have n2_ := Aside0.mk (Kd.R_mono (Kd.R_told (Kd.R_told (Kd.R_old (by (with_reducible repeat (first | apply Kd.R_alloc | apply Kd.R_drewN | apply Kd.R_drew)); exact HO428.out) hb) (Kd.R_base ho0)) (Kd.R_base ho1)) (fun _ h_ => h_.1)); have n3_ := Aside0.mk (Kd.R_lower (Kd.R_new' (Kd.R_new' (Kd.R_new' ho0 (Kd.R_lt (by (with_reducible repeat (first | apply Kd.R_alloc | apply Kd.R_drewN | apply Kd.R_drew)); exact HO_7.out))) (Kd.R_lt (by (with_reducible repeat (first | apply Kd.R_alloc | apply Kd.R_drewN | apply Kd.R_drew)); exact HO_9.out))) (Kd.R_lt (by (with_reducible repeat (first | apply Kd.R_alloc | apply Kd.R_drewN | apply Kd.R_drew)); exact HO428.out))) (below_size (by repeat (first | (with_reducible first | exact HB.out | apply below_alloc | apply pw_below_drewN | apply below_drew1) | exact HB.out)))); have n4_ := Aside0.mk (Kd.R_lower (Kd.R_new' (Kd.R_new' (Kd.R_new' ho1 (Kd.R_lt (by (with_reducible repeat (first | apply Kd.R_alloc | apply Kd.R_drewN | apply Kd.R_drew)); exact HO_7.out))) (Kd.R_lt (by (with_reducible repeat (first | apply Kd.R_alloc | apply Kd.R_drewN | apply Kd.R_drew)); exact HO_9.out))) (Kd.R_lt (by (with_reducible repeat (first | apply Kd.R_alloc | apply Kd.R_drewN | apply Kd.R_drew)); exact HO428.out))) (below_size (by repeat (first | (with_reducible first | exact HB.out | apply below_alloc | apply pw_below_drewN | apply below_drew1) | exact HB.out)))); have n5_ := Aside0.mk (Kd.C_below (by repeat (first | (with_reducible exact HR423.out) | (with_reducible refine Kd.C_alloc ?_ _) | (with_reducible refine Kd.C_drewN ?_ _) | (with_reducible refine Kd.C_drew ?_) | exact HR423.out)) hb); have n6_ := Aside0.mk (Kd.C_below (by repeat (first | (with_reducible exact HR433.out) | (with_reducible refine Kd.C_alloc ?_ _) | (with_reducible refine Kd.C_drewN ?_ _) | (with_reducible refine Kd.C_drew ?_) | exact HR433.out)) hb); have n7_ := Aside0.mk (below_step (by repeat (first | (with_reducible first | exact HB.out | apply below_alloc | apply pw_below_drewN | apply below_drew1) | exact HB.out)) hb); clear HO_7; clear HO_9; clear HO428; clear HR423; clear HR433; clear HB; have HO_7 := n0_; have HO_9 := n1_; have HO428 := n2_; have HO438 := n3_; have HO440 := n4_; have HR423 := n5_; have HR433 := n6_; have HB := n7_; clear n0_ n1_ n2_ n3_ n4_ n5_ n6_ n7_; (try clear hb); (try clear hb2); (try clear hk); (try clear hi); (try clear ho0); (try clear ho1)))
                        go_ret
                        exact ⟨by first | rfl | (simp [errW_none, errW_some] <;> rfl) | (simp only [← hji8]; first | rfl | (simp [errW_none, errW_some] <;> rfl)) | (simp [*, errW_none, errW_some] <;> rfl), by repeat (first | (with_reducible first | exact HB.out | apply below_alloc | apply pw_below_drewN | apply below_drew1) | exact HB.out)⟩
                      · rw [if_neg c32] at H
                        exact absurd H (by simp)
                    · rw [if_neg c30] at H
                      exact absurd H (by simp)
                  · rw [if_neg c29] at H
                    exact absurd H (by simp)
                · rw [if_neg c26] at H
                  exact absurd H (by simp)
              · rw [if_neg c25] at H
                exact absurd H (by simp)
      · rw [if_neg c10] at H
        exact absurd H (by simp)
    · rw [if_neg c9] at H
      exact absurd H (by simp)
  · replace c5 := Bool.eq_false_iff.mpr c5
    subst c5
    have H1 : (none) = some r := by rw [if_neg (show ¬ (false = true) by decide)] at H; exact H
    clear H
    have H := H1
    clear H1
    exact absurd H (by simp)

/-- THE ONE PURE STATEMENT of incunablelaw01_VarnumCut: yours. -/
def incunablelaw01_VarnumCut.Pure : Prop := ∀ (a0 : Int) (l1 : List Int) (a2 : Int), (Lit.int .i64 a0).wf = true → l1.length ≤ maxLen → l1.length * 1 ≤ 140737488351232 → (∀ x ∈ l1, (Lit.int .u8 x).wf = true) → (Lit.int .i64 a2).wf = true → ∃ k, incunablelaw01_VarnumCut.f k a0 l1 a2 = some true
theorem incunablelaw01_VarnumCut.walk (P : incunablelaw01_VarnumCut.Pure) (a0 : Int) (a1 : Option Addr) (len1 cap1 : Nat) (z1 : List Int) (a2 : Int) (w : World) (w0 : (Lit.int .i64 a0).wf = true) (w1 : (a1 = none ∧ len1 = 0 ∧ cap1 = 0 ∧ z1 = []) ∨ ∃ x, a1 = some x ∧ len1 ≤ cap1 ∧ cap1 ≤ maxLen ∧ z1.length = cap1 ∧ (∀ i, i < z1.length → w.cell? (x.add i) = some (.int .u8 (z1.getD i 0))) ∧ ∀ n ∈ z1, (Lit.int .u8 n).wf = true) (y1 : len1 * 1 ≤ 140737488351232) (w2 : (Lit.int .i64 a2).wf = true) :
    Calls Try.prog 7 #[.int .i64 a0, .slice a1 len1 cap1, .int .i64 a2] w fun e w' => e = .returned (.bool true) ∧ Below w.heap.size w w' := by
  obtain ⟨l1, rfl, hr1, hm1, hw1, hc1⟩ := ReadsInt.ofRowC w1
  obtain ⟨k, h⟩ := P a0 l1 a2 w0 hm1 y1 hw1 w2
  refine (incunablelaw01_VarnumCut.calls k a0 _ _ l1 a2 true w (Kd.C_of_reads (d := (0 : Int)) (h1 := fun _ => rfl) hr1) hc1 h).mono ?_
  rintro e w' ⟨rfl, hd⟩
  exact ⟨rfl, hd⟩

end Go.Proofs.Ytnonhhblfmceaaa.X
