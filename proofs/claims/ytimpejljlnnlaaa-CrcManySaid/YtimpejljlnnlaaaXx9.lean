-- Laid by xprint.py, a program of this session over the kit's print; checked by Lean alone.
import Derived.Test.YtimpejljlnnlaaaXx0
import Derived.Test.YtimpejljlnnlaaaXx2
import Derived.Test.YtimpejljlnnlaaaXx6
import Derived.Test.YtimpejljlnnlaaaXx8
namespace Go.Proofs.Ytimpejljlnnlaaa.X
open Go.RowKit Go.Proofs.YtimpejljlnnlaaaW.PrintWords Go.Proofs.YtimpejljlnnlaaaW.PrintLast Go.Proofs.YtimpejljlnnlaaaW.PrintMore
attribute [local go_sem] max2_int min2_int max_two min_two max_three min_three max_four min_four   -- for this text's walks alone
set_option linter.unusedVariables false
set_option linter.unusedSimpArgs false

/-! ### incunablelaw02_CrcMany: function 4 -/
mutual
def incunablelaw02_CrcMany.l0 : Nat → Int → List Int → List Int → Int → Int → Int → Int → Option (Bool)
  | 0, _, _, _, _, _, _, _ => none
  | k + 1, x0, x1, x2, x7, x8, x9, x10 => if x10 ≤ (x2.length : Int) then (incunablelaw02_CrcMany.j1 k x0 x1 x2 x7 x8 x9 x10 (decide (x10 ≤ 40))) else (incunablelaw02_CrcMany.j1 k x0 x1 x2 x7 x8 x9 x10 false)
def incunablelaw02_CrcMany.j1 : Nat → Int → List Int → List Int → Int → Int → Int → Int → Bool → Option (Bool)
  | 0, _, _, _, _, _, _, _, _ => none
  | k + 1, x0, x1, x2, x7, x8, x9, x10, x27 => if x27 = true then (if x10 < (x2.length : Int) then (incunablelaw02_CrcMany.j2 k x0 x1 x2 x7 x8 x9 x10 (x1.length : Int) (decide (x10 < 40))) else (incunablelaw02_CrcMany.j2 k x0 x1 x2 x7 x8 x9 x10 (x1.length : Int) false)) else ((crc_On.f k x0 x1).bind fun t144 => (if x7 = t144 then ((crc_Of.f k x1).bind fun t145 => (some (x8 == t145))) else (some false)))
def incunablelaw02_CrcMany.j2 : Nat → Int → List Int → List Int → Int → Int → Int → Int → Int → Bool → Option (Bool)
  | 0, _, _, _, _, _, _, _, _, _ => none
  | k + 1, x0, x1, x2, x7, x8, x9, x10, x11, x39 => if x39 = true then (if 0 ≤ x10 then (if x10 < (x2.length : Int) then ((incunableref00_Bring.f (rd x2 x10) (wrap64 ((wrap64 ((x1.length : Int) - x9)) + 1))).bind fun t147 => (if 0 ≤ x9 then (if x9 ≤ (wrap64 (x9 + t147)) then (if (wrap64 (x9 + t147)) ≤ (x1.length : Int) then ((crc_On.f k x7 ((x1.take ((wrap64 (x9 + t147)) : Int).toNat).drop (x9 : Int).toNat)).bind fun t149 => ((crc_On.f k x8 ((x1.take ((wrap64 (x9 + t147)) : Int).toNat).drop (x9 : Int).toNat)).bind fun t151 => (incunablelaw02_CrcMany.l0 k x0 x1 x2 t149 t151 (wrap64 (x9 + t147)) (wrap64 (x10 + 1))))) else (none)) else (none)) else (none))) else (none)) else (none)) else (if 0 ≤ x9 then (if x9 ≤ x11 then (if x11 ≤ (x1.length : Int) then ((crc_On.f k x7 ((x1.take (x11 : Int).toNat).drop (x9 : Int).toNat)).bind fun t153 => ((crc_On.f k x8 ((x1.take (x11 : Int).toNat).drop (x9 : Int).toNat)).bind fun t155 => (incunablelaw02_CrcMany.l0 k x0 x1 x2 t153 t155 x11 (wrap64 (x10 + 1))))) else (none)) else (none)) else (none))
end
def incunablelaw02_CrcMany.f (k : Nat) (a0 : Int) (l1 : List Int) (l2 : List Int) : Option (Bool) := (incunablelaw02_works.f k).bind fun t142 => (if t142 = true then (if 0 ≤ (mn (l1.length : Int) 3000) then (if (mn (l1.length : Int) 3000) ≤ (l1.length : Int) then (incunablelaw02_CrcMany.l0 k a0 (l1.take ((mn (l1.length : Int) 3000) : Int).toNat) l2 a0 0 0 0) else (none)) else (none)) else (some false))
theorem incunablelaw02_CrcMany.mono_l : ∀ k, (∀ y0 y1 y2 y3 y4 y5 y6, LeO (incunablelaw02_CrcMany.l0 k y0 y1 y2 y3 y4 y5 y6) (incunablelaw02_CrcMany.l0 (k + 1) y0 y1 y2 y3 y4 y5 y6)) ∧ (∀ y0 y1 y2 y3 y4 y5 y6 y7, LeO (incunablelaw02_CrcMany.j1 k y0 y1 y2 y3 y4 y5 y6 y7) (incunablelaw02_CrcMany.j1 (k + 1) y0 y1 y2 y3 y4 y5 y6 y7)) ∧ (∀ y0 y1 y2 y3 y4 y5 y6 y7 y8, LeO (incunablelaw02_CrcMany.j2 k y0 y1 y2 y3 y4 y5 y6 y7 y8) (incunablelaw02_CrcMany.j2 (k + 1) y0 y1 y2 y3 y4 y5 y6 y7 y8))
  | 0 => ⟨fun _ _ _ _ _ _ _ r h => by simp [incunablelaw02_CrcMany.l0] at h, fun _ _ _ _ _ _ _ _ r h => by simp [incunablelaw02_CrcMany.j1] at h, fun _ _ _ _ _ _ _ _ _ r h => by simp [incunablelaw02_CrcMany.j2] at h⟩
  | k + 1 => by
    obtain ⟨ih0, ih1, ih2⟩ := incunablelaw02_CrcMany.mono_l k
    refine ⟨?_, ?_, ?_⟩
    · intro y0 y1 y2 y3 y4 y5 y6
      unfold incunablelaw02_CrcMany.l0
      repeat' first
      | (with_reducible exact ih0 _ _ _ _ _ _ _)
      | (with_reducible exact ih1 _ _ _ _ _ _ _ _)
      | (with_reducible exact ih2 _ _ _ _ _ _ _ _ _)
      | (with_reducible exact crc_Of.mono _ _)
      | (with_reducible exact crc_On.mono _ _ _)
      | (with_reducible exact incunablelaw02_works.mono _)
      | (with_reducible exact LeO.refl _)
      | (with_reducible exact LeO.none _)
      | (with_reducible refine LeO.ite ?_ ?_)
      | (with_reducible refine LeO.bind ?_ (fun _ => ?_))
      | exact ih0 _ _ _ _ _ _ _
      | exact ih1 _ _ _ _ _ _ _ _
      | exact ih2 _ _ _ _ _ _ _ _ _
      | exact crc_Of.mono _ _
      | exact crc_On.mono _ _ _
      | exact incunablelaw02_works.mono _
      | exact LeO.none _
      | refine LeO.ite ?_ ?_
      | refine LeO.bind ?_ (fun _ => ?_)
    · intro y0 y1 y2 y3 y4 y5 y6 y7
      unfold incunablelaw02_CrcMany.j1
      repeat' first
      | (with_reducible exact ih0 _ _ _ _ _ _ _)
      | (with_reducible exact ih1 _ _ _ _ _ _ _ _)
      | (with_reducible exact ih2 _ _ _ _ _ _ _ _ _)
      | (with_reducible exact crc_Of.mono _ _)
      | (with_reducible exact crc_On.mono _ _ _)
      | (with_reducible exact incunablelaw02_works.mono _)
      | (with_reducible exact LeO.refl _)
      | (with_reducible exact LeO.none _)
      | (with_reducible refine LeO.ite ?_ ?_)
      | (with_reducible refine LeO.bind ?_ (fun _ => ?_))
      | exact ih0 _ _ _ _ _ _ _
      | exact ih1 _ _ _ _ _ _ _ _
      | exact ih2 _ _ _ _ _ _ _ _ _
      | exact crc_Of.mono _ _
      | exact crc_On.mono _ _ _
      | exact incunablelaw02_works.mono _
      | exact LeO.none _
      | refine LeO.ite ?_ ?_
      | refine LeO.bind ?_ (fun _ => ?_)
    · intro y0 y1 y2 y3 y4 y5 y6 y7 y8
      unfold incunablelaw02_CrcMany.j2
      repeat' first
      | (with_reducible exact ih0 _ _ _ _ _ _ _)
      | (with_reducible exact ih1 _ _ _ _ _ _ _ _)
      | (with_reducible exact ih2 _ _ _ _ _ _ _ _ _)
      | (with_reducible exact crc_Of.mono _ _)
      | (with_reducible exact crc_On.mono _ _ _)
      | (with_reducible exact incunablelaw02_works.mono _)
      | (with_reducible exact LeO.refl _)
      | (with_reducible exact LeO.none _)
      | (with_reducible refine LeO.ite ?_ ?_)
      | (with_reducible refine LeO.bind ?_ (fun _ => ?_))
      | exact ih0 _ _ _ _ _ _ _
      | exact ih1 _ _ _ _ _ _ _ _
      | exact ih2 _ _ _ _ _ _ _ _ _
      | exact crc_Of.mono _ _
      | exact crc_On.mono _ _ _
      | exact incunablelaw02_works.mono _
      | exact LeO.none _
      | refine LeO.ite ?_ ?_
      | refine LeO.bind ?_ (fun _ => ?_)
theorem incunablelaw02_CrcMany.mono : ∀ a0 a1 a2 k, LeO (incunablelaw02_CrcMany.f k a0 a1 a2) (incunablelaw02_CrcMany.f (k + 1) a0 a1 a2) := by
  intro a0 a1 a2 k
  obtain ⟨ih0, ih1, ih2⟩ := incunablelaw02_CrcMany.mono_l k
  unfold incunablelaw02_CrcMany.f
  repeat' first
      | (with_reducible exact ih0 _ _ _ _ _ _ _)
      | (with_reducible exact ih1 _ _ _ _ _ _ _ _)
      | (with_reducible exact ih2 _ _ _ _ _ _ _ _ _)
      | (with_reducible exact crc_Of.mono _ _)
      | (with_reducible exact crc_On.mono _ _ _)
      | (with_reducible exact incunablelaw02_works.mono _)
      | (with_reducible exact LeO.refl _)
      | (with_reducible exact LeO.none _)
      | (with_reducible refine LeO.ite ?_ ?_)
      | (with_reducible refine LeO.bind ?_ (fun _ => ?_))
      | exact ih0 _ _ _ _ _ _ _
      | exact ih1 _ _ _ _ _ _ _ _
      | exact ih2 _ _ _ _ _ _ _ _ _
      | exact crc_Of.mono _ _
      | exact crc_On.mono _ _ _
      | exact incunablelaw02_works.mono _
      | exact LeO.none _
      | refine LeO.ite ?_ ?_
      | refine LeO.bind ?_ (fun _ => ?_)
set_option maxHeartbeats 8000000 in
set_option maxRecDepth 100000 in
theorem incunablelaw02_CrcMany.calls (k : Nat) (a0 : Int) (A1 : Option Addr) (c1 : Nat) (l1 : List Int) (A2 : Option Addr) (c2 : Nat) (l2 : List Int) (r : Bool) (w : World) (hr1 : Kd.C (Kd.int .u8) w A1 l1.length l1) (hc1 : l1.length ≤ c1) (hr2 : Kd.C (Kd.int .i64) w A2 l2.length l2) (hc2 : l2.length ≤ c2) (h : incunablelaw02_CrcMany.f k a0 l1 l2 = some r) :
    Calls Try.prog 4 #[.int .u32 a0, .slice A1 l1.length c1, .slice A2 l2.length c2] w fun e w' => e = .returned (.bool r) ∧ Below w.heap.size w w' := by
  have HR1 := Aside0.mk hr1
  have HC1 := Aside0.mk hc1
  clear hr1 hc1
  have HR2 := Aside0.mk hr2
  have HC2 := Aside0.mk hc2
  clear hr2 hc2
  have HB := Aside0.mk (Below.refl w.heap.size w)
  have H : ((incunablelaw02_works.f k).bind fun t142 => (if t142 = true then (if 0 ≤ (mn (l1.length : Int) 3000) then (if (mn (l1.length : Int) 3000) ≤ (l1.length : Int) then (incunablelaw02_CrcMany.l0 k a0 (l1.take ((mn (l1.length : Int) 3000) : Int).toNat) l2 a0 0 0 0) else (none)) else (none)) else (some false))) = some r := h
  clear h
  replace H := Option.bind_eq_some_iff.mp H
  obtain ⟨t142, A40, H⟩ := H
  replace H : (if t142 = true then (if 0 ≤ (mn (l1.length : Int) 3000) then (if (mn (l1.length : Int) 3000) ≤ (l1.length : Int) then (incunablelaw02_CrcMany.l0 k a0 (l1.take ((mn (l1.length : Int) 3000) : Int).toNat) l2 a0 0 0 0) else (none)) else (none)) else (some false)) = some r := H
  have A4 := Aside0.mk A40
  clear A40
  by_cases c5 : t142 = true
  · subst c5
    have H1 : (if 0 ≤ (mn (l1.length : Int) 3000) then (if (mn (l1.length : Int) 3000) ≤ (l1.length : Int) then (incunablelaw02_CrcMany.l0 k a0 (l1.take ((mn (l1.length : Int) 3000) : Int).toNat) l2 a0 0 0 0) else (none)) else (none)) = some r := by rw [if_pos rfl] at H; exact H
    clear H
    have H := H1
    clear H1
    obtain ⟨ji6, hji6⟩ : ∃ j_ : Int, (mn (l1.length : Int) 3000) = j_ := ⟨_, rfl⟩
    replace H : (if 0 ≤ (ji6) then (if (ji6) ≤ (l1.length : Int) then (incunablelaw02_CrcMany.l0 k a0 (l1.take ((ji6) : Int).toNat) l2 a0 0 0 0) else (none)) else (none)) = some r := by first | (rw [hji6] at H; exact H) | (simp only [hji6] at H ⊢; exact H)
    (try rw [hji6] at A4)
    (try (have hji6h : ji6 ≤ 3000 := by (rw [← hji6]; unfold mn; (repeat' split) <;> omega)))
    (try (have hji6g : ji6 ≤ 64 := by omega))
    (try (have hji6l : 0 ≤ ji6 := by (rw [← hji6]; unfold mn; (repeat' split) <;> omega)))
    (try (have hji6m : 0 ≤ ji6 := by omega))
    have hji6_ : (if 3000 < (l1.length : Int) then 3000 else (l1.length : Int)) = ji6 := hji6
    by_cases c7 : 0 ≤ (ji6)
    · rw [if_pos c7] at H
      have c7b0 := eq_true c7
      have c7b1 : decide (0 ≤ (ji6)) = true := decide_eq_true c7
      clear c7
      by_cases c8 : (ji6) ≤ (l1.length : Int)
      · rw [if_pos c8] at H
        have c8b0 := eq_true c8
        have c8b1 : decide ((ji6) ≤ (l1.length : Int)) = true := decide_eq_true c8
        clear c8
        obtain ⟨tk1, htk1⟩ : ∃ y_ : List Int, y_ = (l1.take ((ji6) : Int).toNat) := ⟨_, rfl⟩
        (try rw [← htk1] at H)
        have Ntk1 := Aside0.mk htk1
        clear htk1
        have H' := Aside0.mk H
        clear H
        go_enter Try.func4, Try.ntmps4
        go_wp2_with (first | ((with_reducible refine gate_callee (f := 17) rfl ?_); refine goesL_ (some 12) rfl rfl Try.func17 (by kernel_rfl) rfl #[] rfl (by (try simp only [List.map_toArray, List.map_cons, List.map_nil]); first | done | rfl | (simp only [List.length_drop, List.length_take]; rfl)) ?_; (with_reducible refine (incunablelaw02_works.calls k  true _ A4.out).mono ?_); rintro e w9 ⟨rfl, hb⟩; refine ⟨_, rfl, ?_⟩; have n0_ := Aside0.mk (below_step (by repeat (first | (with_reducible first | exact HB.out | apply below_alloc | apply pw_below_drewN | apply below_drew1) | exact HB.out)) hb); clear HB; have HB := n0_; clear n0_; (try clear hb); (try clear hb2); (try clear hk); (try clear hi); obtain ⟨i010, hi010, _, hsz10, _⟩ := info_parts info5; obtain ⟨hcut10, hA10, hC10⟩ := print_take_of (P := Try.prog) (Value.int .u8) 0 23 5 .i64 Try.underlying23 hi010 hsz10 A1 c1 l1 (ji6) (of_decide_eq_true (by first | (with_reducible assumption) | assumption)) (of_decide_eq_true (by first | (with_reducible assumption) | assumption)) HC1.out; rw [← Ntk1.out] at hcut10 hA10 hC10; have HR143 := Aside0.mk (Kd.C_of_reads (h1 := fun _ => rfl) (hA10 _ (Kd.reads_of_C HR1.out))); have HC143 := Aside0.mk hC10; clear hA10 hC10 hi010 hsz10))
        go_loopg [7, 8, 9, 10] k (fun kq v7 v8 v9 v10 w' => ∃ (x7_1 : Int) (x8_1 : Int) (x9_1 : Int) (x10_1 : Int), v7 = .int .u32 x7_1 ∧ v8 = .int .u32 x8_1 ∧ v9 = .int .i64 x9_1 ∧ v10 = .int .i64 x10_1 ∧ Aside0 (incunablelaw02_CrcMany.l0 kq a0 tk1 l2 x7_1 x8_1 x9_1 x10_1 = some r) ∧ Aside0 (kq ≤ k) ∧ Aside0 (Below w.heap.size w w'))
        case atStart => exact ⟨(a0), (0), (0), (0), (by first | rfl | (simp; done) | (simp [*]; done)), (by first | rfl | (simp; done) | (simp [*]; done)), (by first | rfl | (simp; done) | (simp [*]; done)), (by first | rfl | (simp; done) | (simp [*]; done)), H', ⟨Nat.le_refl _⟩, ⟨by repeat (first | (with_reducible first | exact HB.out | apply below_alloc | apply pw_below_drewN | apply below_drew1) | exact HB.out)⟩⟩
        case round =>
          clear H'
          try clear c1
          try clear c2
          try clear p2
          try clear c4
          try clear c5
          try clear c7
          try clear c7b0
          try clear c7b1
          try clear c8
          try clear c8b0
          try clear c8b1
          obtain ⟨x7_1, x8_1, x9_1, x10_1, rfl, rfl, rfl, rfl, HA, HK1, HB⟩ := hrel
          cases gk with
          | zero => exact absurd HA.out (by simp [incunablelaw02_CrcMany.l0])
          | succ k1 =>
            have H := HA.out
            clear HA
            simp only [incunablelaw02_CrcMany.l0] at H
            have HC11 := Aside0.mk H
            clear H
            go_upto_region 6 with (fail)
            go_cut [27] (fun v27 wc => ∃ (kq : Nat) (x27_10 : Bool), v27 = .bool x27_10 ∧ Aside0 (incunablelaw02_CrcMany.j1 kq a0 tk1 l2 x7_1 x8_1 x9_1 x10_1 x27_10 = some r) ∧ Aside0 (kq ≤ k1) ∧ Aside0 (Below w.heap.size w wc))
            case first =>
              have H := HC11.out
              clear HC11
              by_cases c12 : x10_1 ≤ (l2.length : Int)
              · rw [if_pos c12] at H
                have c12b0 : decide (x10_1 ≤ (l2.length : Int)) = true := decide_eq_true c12
                clear c12
                (first | rw [c12b0] | (simp only [i64_w, i32_w]; rw [c12b0]) | skip)
                have H' := Aside0.mk H
                clear H
                go_wp2
                go_meet
                case rel => exact ⟨_, (decide (x10_1 ≤ 40)), (by first | rfl | (simp; done) | (simp [*]; done)), H', ⟨by have := HK1.out; first | omega | exact Nat.le_refl _⟩, ⟨by repeat (first | (with_reducible first | exact HB.out | apply below_alloc | apply pw_below_drewN | apply below_drew1) | exact HB.out)⟩⟩
              · rw [if_neg c12] at H
                have c12b0 : decide (x10_1 ≤ (l2.length : Int)) = false := decide_eq_false c12
                clear c12
                (first | rw [c12b0] | (simp only [i64_w, i32_w]; rw [c12b0]) | skip)
                have H' := Aside0.mk H
                clear H
                go_wp2
                go_meet
                case rel => exact ⟨_, (false), (by first | rfl | (simp; done) | (simp [*]; done)), H', ⟨by have := HK1.out; first | omega | exact Nat.le_refl _⟩, ⟨by repeat (first | (with_reducible first | exact HB.out | apply below_alloc | apply pw_below_drewN | apply below_drew1) | exact HB.out)⟩⟩
            case rest =>
              clear HC11
              try clear c1
              try clear c2
              try clear p2
              try clear c4
              try clear c5
              try clear c7
              try clear c7b0
              try clear c7b1
              try clear c8
              try clear c8b0
              try clear c8b1
              try clear c12
              try clear c12b0
              try clear p2
              obtain ⟨kq, x27_10, rfl, HA, HJ10, HB⟩ := hcut
              cases kq with
              | zero => exact absurd HA.out (by simp [incunablelaw02_CrcMany.j1])
              | succ kj10 =>
                have H := HA.out
                clear HA
                simp only [incunablelaw02_CrcMany.j1] at H
                by_cases c13 : x27_10 = true
                · subst c13
                  have H1 : (if x10_1 < (l2.length : Int) then (incunablelaw02_CrcMany.j2 kj10 a0 tk1 l2 x7_1 x8_1 x9_1 x10_1 (tk1.length : Int) (decide (x10_1 < 40))) else (incunablelaw02_CrcMany.j2 kj10 a0 tk1 l2 x7_1 x8_1 x9_1 x10_1 (tk1.length : Int) false)) = some r := by rw [if_pos rfl] at H; exact H
                  clear H
                  have H := H1
                  clear H1
                  have HC14 := Aside0.mk H
                  clear H
                  go_upto_region 9 with (fail)
                  go_cut [39] (fun v39 wc => ∃ (kq : Nat) (x39_13 : Bool), v39 = .bool x39_13 ∧ Aside0 (incunablelaw02_CrcMany.j2 kq a0 tk1 l2 x7_1 x8_1 x9_1 x10_1 (tk1.length : Int) x39_13 = some r) ∧ Aside0 (kq ≤ kj10) ∧ Aside0 (Below w.heap.size w wc))
                  case first =>
                    have H := HC14.out
                    clear HC14
                    by_cases c15 : x10_1 < (l2.length : Int)
                    · rw [if_pos c15] at H
                      have c15b0 : decide (x10_1 < (l2.length : Int)) = true := decide_eq_true c15
                      clear c15
                      (first | rw [c15b0] | (simp only [i64_w, i32_w]; rw [c15b0]) | skip)
                      have H' := Aside0.mk H
                      clear H
                      go_wp2
                      go_meet
                      case rel => exact ⟨_, (decide (x10_1 < 40)), (by first | rfl | (simp; done) | (simp [*]; done)), H', ⟨by have := HK1.out; have := HJ10.out; first | omega | exact Nat.le_refl _⟩, ⟨by repeat (first | (with_reducible first | exact HB.out | apply below_alloc | apply pw_below_drewN | apply below_drew1) | exact HB.out)⟩⟩
                    · rw [if_neg c15] at H
                      have c15b0 : decide (x10_1 < (l2.length : Int)) = false := decide_eq_false c15
                      clear c15
                      (first | rw [c15b0] | (simp only [i64_w, i32_w]; rw [c15b0]) | skip)
                      have H' := Aside0.mk H
                      clear H
                      go_wp2
                      go_meet
                      case rel => exact ⟨_, (false), (by first | rfl | (simp; done) | (simp [*]; done)), H', ⟨by have := HK1.out; have := HJ10.out; first | omega | exact Nat.le_refl _⟩, ⟨by repeat (first | (with_reducible first | exact HB.out | apply below_alloc | apply pw_below_drewN | apply below_drew1) | exact HB.out)⟩⟩
                  case rest =>
                    clear HC14
                    try clear c1
                    try clear c2
                    try clear p2
                    try clear c4
                    try clear c5
                    try clear c7
                    try clear c7b0
                    try clear c7b1
                    try clear c8
                    try clear c8b0
                    try clear c8b1
                    try clear c12
                    try clear c12b0
                    try clear c13
                    try clear c15
                    try clear c15b0
                    try clear p2
                    obtain ⟨kq, x39_13, rfl, HA, HJ13, HB⟩ := hcut
                    cases kq with
                    | zero => exact absurd HA.out (by simp [incunablelaw02_CrcMany.j2])
                    | succ kj13 =>
                      have H := HA.out
                      clear HA
                      simp only [incunablelaw02_CrcMany.j2] at H
                      by_cases c16 : x39_13 = true
                      · subst c16
                        have H1 : (if 0 ≤ x10_1 then (if x10_1 < (l2.length : Int) then ((incunableref00_Bring.f (rd l2 x10_1) (wrap64 ((wrap64 ((tk1.length : Int) - x9_1)) + 1))).bind fun t147 => (if 0 ≤ x9_1 then (if x9_1 ≤ (wrap64 (x9_1 + t147)) then (if (wrap64 (x9_1 + t147)) ≤ (tk1.length : Int) then ((crc_On.f kj13 x7_1 ((tk1.take ((wrap64 (x9_1 + t147)) : Int).toNat).drop (x9_1 : Int).toNat)).bind fun t149 => ((crc_On.f kj13 x8_1 ((tk1.take ((wrap64 (x9_1 + t147)) : Int).toNat).drop (x9_1 : Int).toNat)).bind fun t151 => (incunablelaw02_CrcMany.l0 kj13 a0 tk1 l2 t149 t151 (wrap64 (x9_1 + t147)) (wrap64 (x10_1 + 1))))) else (none)) else (none)) else (none))) else (none)) else (none)) = some r := by rw [if_pos rfl] at H; exact H
                        clear H
                        have H := H1
                        clear H1
                        by_cases c17 : 0 ≤ x10_1
                        · rw [if_pos c17] at H
                          have c17b0 : decide (0 ≤ x10_1) = true := decide_eq_true c17
                          clear c17
                          by_cases c18 : x10_1 < (l2.length : Int)
                          · rw [if_pos c18] at H
                            have c18b0 : decide (x10_1 < (l2.length : Int)) = true := decide_eq_true c18
                            clear c18
                            replace H := Option.bind_eq_some_iff.mp H
                            obtain ⟨t147, A190, H⟩ := H
                            replace H : (if 0 ≤ x9_1 then (if x9_1 ≤ (wrap64 (x9_1 + t147)) then (if (wrap64 (x9_1 + t147)) ≤ (tk1.length : Int) then ((crc_On.f kj13 x7_1 ((tk1.take ((wrap64 (x9_1 + t147)) : Int).toNat).drop (x9_1 : Int).toNat)).bind fun t149 => ((crc_On.f kj13 x8_1 ((tk1.take ((wrap64 (x9_1 + t147)) : Int).toNat).drop (x9_1 : Int).toNat)).bind fun t151 => (incunablelaw02_CrcMany.l0 kj13 a0 tk1 l2 t149 t151 (wrap64 (x9_1 + t147)) (wrap64 (x10_1 + 1))))) else (none)) else (none)) else (none)) = some r := H
                            have A19 := Aside0.mk A190
                            clear A190
                            by_cases c20 : 0 ≤ x9_1
                            · rw [if_pos c20] at H
                              have c20b0 := eq_true c20
                              have c20b1 : decide (0 ≤ x9_1) = true := decide_eq_true c20
                              clear c20
                              by_cases c21 : x9_1 ≤ (wrap64 (x9_1 + t147))
                              · rw [if_pos c21] at H
                                have c21b0 := eq_true c21
                                have c21b1 : decide (x9_1 ≤ (wrap64 (x9_1 + t147))) = true := decide_eq_true c21
                                by_cases c22 : (wrap64 (x9_1 + t147)) ≤ (tk1.length : Int)
                                · rw [if_pos c22] at H
                                  have c22b0 := eq_true c22
                                  have c22b1 : decide ((wrap64 (x9_1 + t147)) ≤ (tk1.length : Int)) = true := decide_eq_true c22
                                  replace H := Option.bind_eq_some_iff.mp H
                                  obtain ⟨t149, A230, H⟩ := H
                                  replace H : ((crc_On.f kj13 x8_1 ((tk1.take ((wrap64 (x9_1 + t147)) : Int).toNat).drop (x9_1 : Int).toNat)).bind fun t151 => (incunablelaw02_CrcMany.l0 kj13 a0 tk1 l2 t149 t151 (wrap64 (x9_1 + t147)) (wrap64 (x10_1 + 1)))) = some r := H
                                  have A23 := Aside0.mk A230
                                  clear A230
                                  have c24b0 := eq_true (of_decide_eq_true (by first | (with_reducible assumption) | assumption) : 0 ≤ x9_1)
                                  have c25b0 := eq_true (of_decide_eq_true (by first | (with_reducible assumption) | assumption) : x9_1 ≤ (wrap64 (x9_1 + t147)))
                                  have c26b0 := eq_true (of_decide_eq_true (by first | (with_reducible assumption) | assumption) : (wrap64 (x9_1 + t147)) ≤ (tk1.length : Int))
                                  replace H := Option.bind_eq_some_iff.mp H
                                  obtain ⟨t151, A270, H⟩ := H
                                  replace H : (incunablelaw02_CrcMany.l0 kj13 a0 tk1 l2 t149 t151 (wrap64 (x9_1 + t147)) (wrap64 (x10_1 + 1))) = some r := H
                                  have A27 := Aside0.mk A270
                                  clear A270
                                  have H' := Aside0.mk H
                                  clear H
                                  have p146 : 0 ≤ (x10_1 : Int) := of_decide_eq_true (by first | (with_reducible assumption) | assumption)
                                  have q146 : x10_1 < (l2.length : Int) := of_decide_eq_true (by first | (with_reducible assumption) | assumption)
                                  obtain ⟨ad146, e146, hx146_0⟩ := Kd.at_int HR2.out x10_1 p146 q146
                                  cases e146
                                  replace hx146_0 := (HB.out.cell (World.block_lt_of_cell? w _ hx146_0)).trans hx146_0
                                  replace p146 := eq_true p146
                                  replace q146 := eq_true q146
                                  go_wp2_with (first | ((with_reducible refine gate_callee (f := 18) rfl ?_); refine goesL_ (some 50) rfl rfl Try.func18 (by kernel_rfl) rfl #[.int .i64 (rd l2 x10_1), .int .i64 (wrap64 ((wrap64 ((tk1.length : Int) - x9_1)) + 1))] rfl (by (try simp only [List.map_toArray, List.map_cons, List.map_nil]); first | done | (simp only [hji6]; rfl) | rfl | (simp only [List.length_drop, List.length_take]; rfl)) ?_; (with_reducible refine (incunableref00_Bring.calls (rd l2 x10_1) (wrap64 ((wrap64 ((tk1.length : Int) - x9_1)) + 1)) t147 _ A19.out).mono ?_); rintro e w' ⟨rfl, ⟨nd, rfl⟩⟩; refine ⟨_, rfl, ?_⟩; obtain ⟨i028, hi028, _, hsz28, _⟩ := info_parts info5; obtain ⟨A28, hcut28, hA28, hC28⟩ := print_mid_of (P := Try.prog) (Value.int .u8) 0 23 5 .i64 .i64 Try.underlying23 hi028 hsz28 A1 c1 tk1 x9_1 (wrap64 (x9_1 + t147)) (of_decide_eq_true (by first | (with_reducible assumption) | assumption)) (by first | omega | exact of_decide_eq_true (by first | (with_reducible assumption) | assumption)) (of_decide_eq_true (by first | (with_reducible assumption) | assumption)) HC143.out; have HR148 := Aside0.mk (Kd.C_of_reads (h1 := fun _ => rfl) (hA28 _ (Kd.reads_of_C HR143.out))); have HC148 := Aside0.mk hC28; clear hA28 hC28 hi028 hsz28) | ((with_reducible refine gate_callee (f := 14) rfl ?_); refine goesL_ (some 57) rfl rfl Try.func14 (by kernel_rfl) rfl #[.int .u32 x7_1, .slice A28 ((tk1.take ((wrap64 (x9_1 + t147)) : Int).toNat).drop (x9_1 : Int).toNat).length (c1 - x9_1.toNat)] rfl (by (try simp only [List.map_toArray, List.map_cons, List.map_nil]); first | done | (rw [show ((tk1.take ((wrap64 (x9_1 + t147)) : Int).toNat).drop (x9_1 : Int).toNat).length = ((wrap64 (x9_1 + t147)).toNat - x9_1.toNat) from (by rw [List.length_drop, List.length_take]; have h_ : ((wrap64 (x9_1 + t147)) : Int) ≤ (tk1.length : Int) := of_decide_eq_true (by first | (with_reducible assumption) | assumption); omega)] <;> rfl) | (simp only [hji6]; rfl) | rfl | (simp only [List.length_drop, List.length_take]; rfl)) ?_; (with_reducible refine (crc_On.calls kj13 x7_1 _ _ ((tk1.take ((wrap64 (x9_1 + t147)) : Int).toNat).drop (x9_1 : Int).toNat) t149 _ ?side1 ?side2 A23.out).mono ?_); (case side1 => repeat (first | exact (Kd.C_below HR148.out (by repeat (first | (with_reducible first | exact HB.out | apply below_alloc | apply pw_below_drewN | apply below_drew1) | exact HB.out))) | (with_reducible refine Kd.C_alloc ?_ _) | (with_reducible refine Kd.C_drewN ?_ _) | (with_reducible refine Kd.C_drew ?_))); (case side2 => exact HC148.out); rintro e w29 ⟨rfl, hb⟩; refine ⟨_, rfl, ?_⟩; have n0_ := Aside0.mk (below_step (by repeat (first | (with_reducible first | exact HB.out | apply below_alloc | apply pw_below_drewN | apply below_drew1) | exact HB.out)) hb); clear HB; have HB := n0_; clear n0_; (try clear hb); (try clear hb2); (try clear hk); (try clear hi); obtain ⟨i030, hi030, _, hsz30, _⟩ := info_parts info5; (try clear hcut28); obtain ⟨A30, hcut30, hA30, hC30⟩ := print_mid_of (P := Try.prog) (Value.int .u8) 0 23 5 .i64 .i64 Try.underlying23 hi030 hsz30 A1 c1 tk1 x9_1 (wrap64 (x9_1 + t147)) (of_decide_eq_true (by first | (with_reducible assumption) | assumption)) (by first | omega | exact of_decide_eq_true (by first | (with_reducible assumption) | assumption)) (of_decide_eq_true (by first | (with_reducible assumption) | assumption)) HC143.out; have HR150 := Aside0.mk (Kd.C_of_reads (h1 := fun _ => rfl) (hA30 _ (Kd.reads_of_C HR143.out))); have HC150 := Aside0.mk hC30; clear hA30 hC30 hi030 hsz30) | ((with_reducible refine gate_callee (f := 14) rfl ?_); refine goesL_ (some 63) rfl rfl Try.func14 (by kernel_rfl) rfl #[.int .u32 x8_1, .slice A30 ((tk1.take ((wrap64 (x9_1 + t147)) : Int).toNat).drop (x9_1 : Int).toNat).length (c1 - x9_1.toNat)] rfl (by (try simp only [List.map_toArray, List.map_cons, List.map_nil]); first | done | (rw [show ((tk1.take ((wrap64 (x9_1 + t147)) : Int).toNat).drop (x9_1 : Int).toNat).length = ((wrap64 (x9_1 + t147)).toNat - x9_1.toNat) from (by rw [List.length_drop, List.length_take]; have h_ : ((wrap64 (x9_1 + t147)) : Int) ≤ (tk1.length : Int) := of_decide_eq_true (by first | (with_reducible assumption) | assumption); omega)] <;> rfl) | (simp only [hji6]; rfl) | rfl | (simp only [List.length_drop, List.length_take]; rfl)) ?_; (with_reducible refine (crc_On.calls kj13 x8_1 _ _ ((tk1.take ((wrap64 (x9_1 + t147)) : Int).toNat).drop (x9_1 : Int).toNat) t151 _ ?side1 ?side2 A27.out).mono ?_); (case side1 => repeat (first | exact (Kd.C_below HR150.out HB.out) | (with_reducible refine Kd.C_alloc ?_ _) | (with_reducible refine Kd.C_drewN ?_ _) | (with_reducible refine Kd.C_drew ?_))); (case side2 => exact HC150.out); rintro e w31 ⟨rfl, hb⟩; refine ⟨_, rfl, ?_⟩; have n0_ := Aside0.mk (below_step (by repeat (first | (with_reducible first | exact HB.out | apply below_alloc | apply pw_below_drewN | apply below_drew1) | exact HB.out)) hb); clear HB; have HB := n0_; clear n0_; (try clear hb); (try clear hb2); (try clear hk); (try clear hi)))
                                  go_roundg kj13
                                  case measure => have := HK1.out; have := HJ10.out; have := HJ13.out; omega
                                  case rel => exact ⟨(t149), (t151), (wrap64 (x9_1 + t147)), (wrap64 (x10_1 + 1)), (by first | rfl | (simp; done) | (simp [*]; done)), (by first | rfl | (simp; done) | (simp [*]; done)), (by first | rfl | (simp; done) | (simp [*]; done)), (by first | rfl | (simp; done) | (simp [*]; done)), H', ⟨by have := HK1.out; have := HJ10.out; have := HJ13.out; omega⟩, ⟨by repeat (first | (with_reducible first | exact HB.out | apply below_alloc | apply pw_below_drewN | apply below_drew1) | exact HB.out)⟩⟩
                                · rw [if_neg c22] at H
                                  exact absurd H (by simp)
                              · rw [if_neg c21] at H
                                exact absurd H (by simp)
                            · rw [if_neg c20] at H
                              exact absurd H (by simp)
                          · rw [if_neg c18] at H
                            exact absurd H (by simp)
                        · rw [if_neg c17] at H
                          exact absurd H (by simp)
                      · replace c16 := Bool.eq_false_iff.mpr c16
                        subst c16
                        have H1 : (if 0 ≤ x9_1 then (if x9_1 ≤ (tk1.length : Int) then (if (tk1.length : Int) ≤ (tk1.length : Int) then ((crc_On.f kj13 x7_1 ((tk1.take ((tk1.length : Int) : Int).toNat).drop (x9_1 : Int).toNat)).bind fun t153 => ((crc_On.f kj13 x8_1 ((tk1.take ((tk1.length : Int) : Int).toNat).drop (x9_1 : Int).toNat)).bind fun t155 => (incunablelaw02_CrcMany.l0 kj13 a0 tk1 l2 t153 t155 (tk1.length : Int) (wrap64 (x10_1 + 1))))) else (none)) else (none)) else (none)) = some r := by rw [if_neg (show ¬ (false = true) by decide)] at H; exact H
                        clear H
                        have H := H1
                        clear H1
                        by_cases c32 : 0 ≤ x9_1
                        · rw [if_pos c32] at H
                          have c32b0 := eq_true c32
                          have c32b1 : decide (0 ≤ x9_1) = true := decide_eq_true c32
                          clear c32
                          by_cases c33 : x9_1 ≤ (tk1.length : Int)
                          · rw [if_pos c33] at H
                            have c33b0 := eq_true c33
                            have c33b1 : decide (x9_1 ≤ (tk1.length : Int)) = true := decide_eq_true c33
                            clear c33
                            by_cases c34 : (tk1.length : Int) ≤ (tk1.length : Int)
                            · rw [if_pos c34] at H
                              have c34b0 := eq_true c34
                              have c34b1 : decide ((tk1.length : Int) ≤ (tk1.length : Int)) = true := decide_eq_true c34
                              clear c34
                              replace H := Option.bind_eq_some_iff.mp H
                              obtain ⟨t153, A350, H⟩ := H
                              replace H : ((crc_On.f kj13 x8_1 ((tk1.take ((tk1.length : Int) : Int).toNat).drop (x9_1 : Int).toNat)).bind fun t155 => (incunablelaw02_CrcMany.l0 kj13 a0 tk1 l2 t153 t155 (tk1.length : Int) (wrap64 (x10_1 + 1)))) = some r := H
                              have A35 := Aside0.mk A350
                              clear A350
                              have c36b0 := eq_true (of_decide_eq_true (by first | (with_reducible assumption) | assumption) : 0 ≤ x9_1)
                              have c37b0 := eq_true (of_decide_eq_true (by first | (with_reducible assumption) | assumption) : x9_1 ≤ (tk1.length : Int))
                              have c38b0 := eq_true (of_decide_eq_true (by first | (with_reducible assumption) | assumption) : (tk1.length : Int) ≤ (tk1.length : Int))
                              replace H := Option.bind_eq_some_iff.mp H
                              obtain ⟨t155, A390, H⟩ := H
                              replace H : (incunablelaw02_CrcMany.l0 kj13 a0 tk1 l2 t153 t155 (tk1.length : Int) (wrap64 (x10_1 + 1))) = some r := H
                              have A39 := Aside0.mk A390
                              clear A390
                              have H' := Aside0.mk H
                              clear H
                              obtain ⟨i040, hi040, _, hsz40, _⟩ := info_parts info5
                              obtain ⟨A40, hcut40, hA40, hC40⟩ := print_mid_of (P := Try.prog) (Value.int .u8) 0 23 5 .i64 .i64 Try.underlying23 hi040 hsz40 A1 c1 tk1 x9_1 (tk1.length : Int) (of_decide_eq_true (by first | (with_reducible assumption) | assumption)) (by first | omega | exact of_decide_eq_true (by first | (with_reducible assumption) | assumption)) (of_decide_eq_true (by first | (with_reducible assumption) | assumption)) HC143.out
                              have HR152 := Aside0.mk (Kd.C_of_reads (h1 := fun _ => rfl) (hA40 _ (Kd.reads_of_C HR143.out)))
                              have HC152 := Aside0.mk hC40
                              clear hA40 hC40 hi040 hsz40
                              go_wp2_with (first | ((with_reducible refine gate_callee (f := 14) rfl ?_); refine goesL_ (some 57) rfl rfl Try.func14 (by kernel_rfl) rfl #[.int .u32 x7_1, .slice A40 ((tk1.take ((tk1.length : Int) : Int).toNat).drop (x9_1 : Int).toNat).length (c1 - x9_1.toNat)] rfl (by (try simp only [List.map_toArray, List.map_cons, List.map_nil]); first | done | (rw [show ((tk1.take ((tk1.length : Int) : Int).toNat).drop (x9_1 : Int).toNat).length = ((tk1.length : Int).toNat - x9_1.toNat) from (by rw [List.length_drop, List.length_take]; have h_ : ((tk1.length : Int) : Int) ≤ (tk1.length : Int) := of_decide_eq_true (by first | (with_reducible assumption) | assumption); omega)] <;> rfl) | (simp only [hji6]; rfl) | rfl | (simp only [List.length_drop, List.length_take]; rfl)) ?_; (with_reducible refine (crc_On.calls kj13 x7_1 _ _ ((tk1.take ((tk1.length : Int) : Int).toNat).drop (x9_1 : Int).toNat) t153 _ ?side1 ?side2 A35.out).mono ?_); (case side1 => repeat (first | exact (Kd.C_below HR152.out HB.out) | (with_reducible refine Kd.C_alloc ?_ _) | (with_reducible refine Kd.C_drewN ?_ _) | (with_reducible refine Kd.C_drew ?_))); (case side2 => exact HC152.out); rintro e w41 ⟨rfl, hb⟩; refine ⟨_, rfl, ?_⟩; have n0_ := Aside0.mk (below_step (by repeat (first | (with_reducible first | exact HB.out | apply below_alloc | apply pw_below_drewN | apply below_drew1) | exact HB.out)) hb); clear HB; have HB := n0_; clear n0_; (try clear hb); (try clear hb2); (try clear hk); (try clear hi); obtain ⟨i042, hi042, _, hsz42, _⟩ := info_parts info5; (try clear hcut40); obtain ⟨A42, hcut42, hA42, hC42⟩ := print_mid_of (P := Try.prog) (Value.int .u8) 0 23 5 .i64 .i64 Try.underlying23 hi042 hsz42 A1 c1 tk1 x9_1 (tk1.length : Int) (of_decide_eq_true (by first | (with_reducible assumption) | assumption)) (by first | omega | exact of_decide_eq_true (by first | (with_reducible assumption) | assumption)) (of_decide_eq_true (by first | (with_reducible assumption) | assumption)) HC143.out; have HR154 := Aside0.mk (Kd.C_of_reads (h1 := fun _ => rfl) (hA42 _ (Kd.reads_of_C HR143.out))); have HC154 := Aside0.mk hC42; clear hA42 hC42 hi042 hsz42) | ((with_reducible refine gate_callee (f := 14) rfl ?_); refine goesL_ (some 63) rfl rfl Try.func14 (by kernel_rfl) rfl #[.int .u32 x8_1, .slice A42 ((tk1.take ((tk1.length : Int) : Int).toNat).drop (x9_1 : Int).toNat).length (c1 - x9_1.toNat)] rfl (by (try simp only [List.map_toArray, List.map_cons, List.map_nil]); first | done | (rw [show ((tk1.take ((tk1.length : Int) : Int).toNat).drop (x9_1 : Int).toNat).length = ((tk1.length : Int).toNat - x9_1.toNat) from (by rw [List.length_drop, List.length_take]; have h_ : ((tk1.length : Int) : Int) ≤ (tk1.length : Int) := of_decide_eq_true (by first | (with_reducible assumption) | assumption); omega)] <;> rfl) | (simp only [hji6]; rfl) | rfl | (simp only [List.length_drop, List.length_take]; rfl)) ?_; (with_reducible refine (crc_On.calls kj13 x8_1 _ _ ((tk1.take ((tk1.length : Int) : Int).toNat).drop (x9_1 : Int).toNat) t155 _ ?side1 ?side2 A39.out).mono ?_); (case side1 => repeat (first | exact (Kd.C_below HR154.out HB.out) | (with_reducible refine Kd.C_alloc ?_ _) | (with_reducible refine Kd.C_drewN ?_ _) | (with_reducible refine Kd.C_drew ?_))); (case side2 => exact HC154.out); rintro e w43 ⟨rfl, hb⟩; refine ⟨_, rfl, ?_⟩; have n0_ := Aside0.mk (below_step (by repeat (first | (with_reducible first | exact HB.out | apply below_alloc | apply pw_below_drewN | apply below_drew1) | exact HB.out)) hb); clear HB; have HB := n0_; clear n0_; (try clear hb); (try clear hb2); (try clear hk); (try clear hi)))
                              go_roundg kj13
                              case measure => have := HK1.out; have := HJ10.out; have := HJ13.out; omega
                              case rel => exact ⟨(t153), (t155), ((tk1.length : Int)), (wrap64 (x10_1 + 1)), (by first | rfl | (simp; done) | (simp [*]; done)), (by first | rfl | (simp; done) | (simp [*]; done)), (by first | rfl | (simp; done) | (simp only [← hji6] <;> (first | rfl | simp)) | (simp [*]; done)), (by first | rfl | (simp; done) | (simp [*]; done)), H', ⟨by have := HK1.out; have := HJ10.out; have := HJ13.out; omega⟩, ⟨by repeat (first | (with_reducible first | exact HB.out | apply below_alloc | apply pw_below_drewN | apply below_drew1) | exact HB.out)⟩⟩
                            · rw [if_neg c34] at H
                              exact absurd H (by simp)
                          · rw [if_neg c33] at H
                            exact absurd H (by simp)
                        · rw [if_neg c32] at H
                          exact absurd H (by simp)
                · replace c13 := Bool.eq_false_iff.mpr c13
                  subst c13
                  have H1 : ((crc_On.f kj10 a0 tk1).bind fun t144 => (if x7_1 = t144 then ((crc_Of.f kj10 tk1).bind fun t145 => (some (x8_1 == t145))) else (some false))) = some r := by rw [if_neg (show ¬ (false = true) by decide)] at H; exact H
                  clear H
                  have H := H1
                  clear H1
                  replace H := Option.bind_eq_some_iff.mp H
                  obtain ⟨t144, A440, H⟩ := H
                  replace H : (if x7_1 = t144 then ((crc_Of.f kj10 tk1).bind fun t145 => (some (x8_1 == t145))) else (some false)) = some r := H
                  have A44 := Aside0.mk A440
                  clear A440
                  by_cases c45 : x7_1 = t144
                  · rw [if_pos c45] at H
                    have c45b0 : (x7_1 == t144) = true := beq_iff_eq.mpr c45
                    have c45b1 : (x7_1 != t144) = false := bne_eq_false_iff_eq.mpr c45
                    clear c45
                    replace H := Option.bind_eq_some_iff.mp H
                    obtain ⟨t145, A460, H⟩ := H
                    replace H : (some (x8_1 == t145)) = some r := H
                    have A46 := Aside0.mk A460
                    clear A460
                    obtain rfl := Option.some.inj H
                    go_wp2_with (first | ((with_reducible refine gate_callee (f := 14) rfl ?_); refine goesL_ (some 68) rfl rfl Try.func14 (by kernel_rfl) rfl #[.int .u32 a0, .slice A1 tk1.length c1] rfl (by (try simp only [List.map_toArray, List.map_cons, List.map_nil]); first | done | (rw [show tk1.length = (ji6).toNat from (by rw [List.length_take]; have h_ : ((ji6) : Int) ≤ (l1.length : Int) := (by first | exact of_decide_eq_true (by first | (with_reducible assumption) | assumption) | (have h2_ := hji6_; split at h2_ <;> omega)); omega)] <;> rfl) | (simp only [hji6]; rfl) | rfl | (simp only [List.length_drop, List.length_take]; rfl)) ?_; (with_reducible refine (crc_On.calls kj10 a0 _ _ tk1 t144 _ ?side1 ?side2 A44.out).mono ?_); (case side1 => repeat (first | exact (Kd.C_below HR143.out HB.out) | (with_reducible refine Kd.C_alloc ?_ _) | (with_reducible refine Kd.C_drewN ?_ _) | (with_reducible refine Kd.C_drew ?_))); (case side2 => exact HC143.out); rintro e w47 ⟨rfl, hb⟩; refine ⟨_, rfl, ?_⟩; have n0_ := Aside0.mk (below_step (by repeat (first | (with_reducible first | exact HB.out | apply below_alloc | apply pw_below_drewN | apply below_drew1) | exact HB.out)) hb); clear HB; have HB := n0_; clear n0_; (try clear hb); (try clear hb2); (try clear hk); (try clear hi)) | (go_at_call 12; (with_reducible refine (crc_Of.calls kj10 _ _ tk1 t145 _ ?side1 ?side2 A46.out).mono ?_); (case side1 => repeat (first | exact (Kd.C_below HR143.out HB.out) | (with_reducible refine Kd.C_alloc ?_ _) | (with_reducible refine Kd.C_drewN ?_ _) | (with_reducible refine Kd.C_drew ?_))); (case side2 => exact HC143.out); rintro e w48 ⟨rfl, hb⟩; have n0_ := Aside0.mk (below_step (by repeat (first | (with_reducible first | exact HB.out | apply below_alloc | apply pw_below_drewN | apply below_drew1) | exact HB.out)) hb); clear HB; have HB := n0_; clear n0_; (try clear hb); (try clear hb2); (try clear hk); (try clear hi)))
                    go_ret
                    exact ⟨by first | rfl | (simp [errW_none, errW_some] <;> rfl) | (simp only [← hji6]; first | rfl | (simp [errW_none, errW_some] <;> rfl)) | (simp [*, errW_none, errW_some] <;> rfl), by repeat (first | (with_reducible first | exact HB.out | apply below_alloc | apply pw_below_drewN | apply below_drew1) | exact HB.out)⟩
                  · rw [if_neg c45] at H
                    have c45b0 : (x7_1 == t144) = false := beq_eq_false_iff_ne.mpr c45
                    have c45b1 : (x7_1 != t144) = true := bne_iff_ne.mpr c45
                    obtain rfl := Option.some.inj H
                    go_wp2_with (first | ((with_reducible refine gate_callee (f := 14) rfl ?_); refine goesL_ (some 68) rfl rfl Try.func14 (by kernel_rfl) rfl #[.int .u32 a0, .slice A1 tk1.length c1] rfl (by (try simp only [List.map_toArray, List.map_cons, List.map_nil]); first | done | (rw [show tk1.length = (ji6).toNat from (by rw [List.length_take]; have h_ : ((ji6) : Int) ≤ (l1.length : Int) := (by first | exact of_decide_eq_true (by first | (with_reducible assumption) | assumption) | (have h2_ := hji6_; split at h2_ <;> omega)); omega)] <;> rfl) | (simp only [hji6]; rfl) | rfl | (simp only [List.length_drop, List.length_take]; rfl)) ?_; (with_reducible refine (crc_On.calls kj10 a0 _ _ tk1 t144 _ ?side1 ?side2 A44.out).mono ?_); (case side1 => repeat (first | exact (Kd.C_below HR143.out HB.out) | (with_reducible refine Kd.C_alloc ?_ _) | (with_reducible refine Kd.C_drewN ?_ _) | (with_reducible refine Kd.C_drew ?_))); (case side2 => exact HC143.out); rintro e w49 ⟨rfl, hb⟩; refine ⟨_, rfl, ?_⟩; have n0_ := Aside0.mk (below_step (by repeat (first | (with_reducible first | exact HB.out | apply below_alloc | apply pw_below_drewN | apply below_drew1) | exact HB.out)) hb); clear HB; have HB := n0_; clear n0_; (try clear hb); (try clear hb2); (try clear hk); (try clear hi)))
                    go_ret
                    exact ⟨by first | rfl | (simp [errW_none, errW_some] <;> rfl) | (simp only [← hji6]; first | rfl | (simp [errW_none, errW_some] <;> rfl)) | (simp [*, errW_none, errW_some] <;> rfl), by repeat (first | (with_reducible first | exact HB.out | apply below_alloc | apply pw_below_drewN | apply below_drew1) | exact HB.out)⟩
      · rw [if_neg c8] at H
        exact absurd H (by simp)
    · rw [if_neg c7] at H
      exact absurd H (by simp)
  · replace c5 := Bool.eq_false_iff.mpr c5
    subst c5
    have H1 : (some false) = some r := by rw [if_neg (show ¬ (false = true) by decide)] at H; exact H
    clear H
    have H := H1
    clear H1
    obtain rfl := Option.some.inj H
    go_enter Try.func4, Try.ntmps4
    go_wp2_with (first | ((with_reducible refine gate_callee (f := 17) rfl ?_); refine goesL_ (some 12) rfl rfl Try.func17 (by kernel_rfl) rfl #[] rfl (by (try simp only [List.map_toArray, List.map_cons, List.map_nil]); first | done | rfl | (simp only [List.length_drop, List.length_take]; rfl)) ?_; (with_reducible refine (incunablelaw02_works.calls k  false _ A4.out).mono ?_); rintro e w50 ⟨rfl, hb⟩; refine ⟨_, rfl, ?_⟩; have n0_ := Aside0.mk (below_step (by repeat (first | (with_reducible first | exact HB.out | apply below_alloc | apply pw_below_drewN | apply below_drew1) | exact HB.out)) hb); clear HB; have HB := n0_; clear n0_; (try clear hb); (try clear hb2); (try clear hk); (try clear hi)))
    go_ret
    exact ⟨by first | rfl | (simp [errW_none, errW_some] <;> rfl) | (simp [*, errW_none, errW_some] <;> rfl), by repeat (first | (with_reducible first | exact HB.out | apply below_alloc | apply pw_below_drewN | apply below_drew1) | exact HB.out)⟩

/-- THE ONE PURE STATEMENT of incunablelaw02_CrcMany: yours. -/
def incunablelaw02_CrcMany.Pure : Prop := ∀ (a0 : Int) (l1 : List Int) (l2 : List Int), (Lit.int .u32 a0).wf = true → l1.length ≤ maxLen → l1.length * 1 ≤ 140737488351232 → (∀ x ∈ l1, (Lit.int .u8 x).wf = true) → l2.length ≤ maxLen → l2.length * 8 ≤ 140737488351232 → (∀ x ∈ l2, (Lit.int .i64 x).wf = true) → ∃ k, incunablelaw02_CrcMany.f k a0 l1 l2 = some true
theorem incunablelaw02_CrcMany.walk (P : incunablelaw02_CrcMany.Pure) (a0 : Int) (a1 : Option Addr) (len1 cap1 : Nat) (z1 : List Int) (a2 : Option Addr) (len2 cap2 : Nat) (z2 : List Int) (w : World) (w0 : (Lit.int .u32 a0).wf = true) (w1 : (a1 = none ∧ len1 = 0 ∧ cap1 = 0 ∧ z1 = []) ∨ ∃ x, a1 = some x ∧ len1 ≤ cap1 ∧ cap1 ≤ maxLen ∧ z1.length = cap1 ∧ (∀ i, i < z1.length → w.cell? (x.add i) = some (.int .u8 (z1.getD i 0))) ∧ ∀ n ∈ z1, (Lit.int .u8 n).wf = true) (y1 : len1 * 1 ≤ 140737488351232) (w2 : (a2 = none ∧ len2 = 0 ∧ cap2 = 0 ∧ z2 = []) ∨ ∃ x, a2 = some x ∧ len2 ≤ cap2 ∧ cap2 ≤ maxLen ∧ z2.length = cap2 ∧ (∀ i, i < z2.length → w.cell? (x.add i) = some (.int .i64 (z2.getD i 0))) ∧ ∀ n ∈ z2, (Lit.int .i64 n).wf = true) (y2 : len2 * 8 ≤ 140737488351232) :
    Calls Try.prog 4 #[.int .u32 a0, .slice a1 len1 cap1, .slice a2 len2 cap2] w fun e w' => e = .returned (.bool true) ∧ Below w.heap.size w w' := by
  obtain ⟨l1, rfl, hr1, hm1, hw1, hc1⟩ := ReadsInt.ofRowC w1
  obtain ⟨l2, rfl, hr2, hm2, hw2, hc2⟩ := ReadsInt.ofRowC w2
  obtain ⟨k, h⟩ := P a0 l1 l2 w0 hm1 y1 hw1 hm2 y2 hw2
  refine (incunablelaw02_CrcMany.calls k a0 _ _ l1 _ _ l2 true w (Kd.C_of_reads (d := (0 : Int)) (h1 := fun _ => rfl) hr1) hc1 (Kd.C_of_reads (d := (0 : Int)) (h1 := fun _ => rfl) hr2) hc2 h).mono ?_
  rintro e w' ⟨rfl, hd⟩
  exact ⟨rfl, hd⟩

end Go.Proofs.Ytimpejljlnnlaaa.X
