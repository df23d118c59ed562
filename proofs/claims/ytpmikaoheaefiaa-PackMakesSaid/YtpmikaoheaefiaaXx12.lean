-- Laid by xprint.py, a program of this session over the kit's print; checked by Lean alone.
import Derived.Test.YtpmikaoheaefiaaXx0
import Derived.Test.YtpmikaoheaefiaaXx3
import Derived.Test.YtpmikaoheaefiaaXx4
import Derived.Test.YtpmikaoheaefiaaXx5
import Derived.Test.YtpmikaoheaefiaaXx6
import Derived.Test.YtpmikaoheaefiaaXx7
import Derived.Test.YtpmikaoheaefiaaXx11
namespace Go.Proofs.Ytpmikaoheaefiaa.X
open Go.RowKit Go.Proofs.YtpmikaoheaefiaaW.PrintWords Go.Proofs.YtpmikaoheaefiaaW.PrintLast Go.Proofs.YtpmikaoheaefiaaW.PrintMore
attribute [local go_sem] max2_int min2_int max_two min_two max_three min_three max_four min_four   -- for this text's walks alone
set_option linter.unusedVariables false
set_option linter.unusedSimpArgs false

/-! ### incunablelaw03_works: function 19 -/
def incunablelaw03_works.j0 : Nat → List Int → Bool → Option (Bool)
  | 0, _, _ => none
  | k + 1, x1, x27 => if x27 = true then (none) else (if 12 ≤ (x1.length : Int) then ((crc_Of.f k (x1.take 12)).bind fun t219 => ((pack_Size.f k x1).bind fun bt220 => ((pack_Unpack.f k x1).bind fun bt222 => (if 15 ≤ (x1.length : Int) then ((pack_Unpack.f k (x1.take 15)).bind fun bt231 => ((incunableref00_CopyBytes.f x1).bind fun t236 => (if t236.length < 140737488355328 then ((pack_Unpack.f k (t236 ++ [0])).bind fun bt242 => (if 15 < (x1.length : Int) then ((some (x1.set (15 : Int).toNat (Go.bits .xor .u8 (rd x1 15) 1) : List Int)).bind fun y248 => ((pack_Unpack.f k y248).bind fun bt249 => ((incunableref00_EqBytes.f k (y248.drop 12) (([(t219) % 256, (t219 / 256) % 256, (t219 / 65536) % 256, Go.bits .xor .u8 ((t219 / 16777216) % 256) 1] : List Int))).bind fun t261 => (if t261 = true then (if bt220.2 = 0 then (if bt220.1 = 16 then (if bt222.2.2 = 0 then (if bt222.1 = 7 then (if (bt222.2.1.length : Int) = 2 then (if 0 < (bt222.2.1.length : Int) then (if ((rd_T33 bt222.2.1 0).f0) = 1 then ((incunableref00_EqBytes.f k ((rd_T33 bt222.2.1 0).f1) (([97] : List Int))).bind fun t267 => (if t267 = true then (if bt231.2.2 = 3 then (if bt242.2.2 = 4 then (some (bt249.2.2 == 30)) else (none)) else (none)) else (none))) else (none)) else (none)) else (none)) else (none)) else (none)) else (none)) else (none)) else (none))))) else (none))) else (none)))) else (none))))) else (none))
def incunablelaw03_works.f (k : Nat)  : Option (Bool) := (incunablelaw03_one.f k).bind fun t204 => (if (t204.length : Int) = 16 then (if 12 ≤ (t204.length : Int) then ((incunableref00_EqBytes.f k (t204.take 12) (([73, 80, 16, 0, 0, 0, 7, 1, 1, 97, 4, 0] : List Int))).bind fun t214 => (incunablelaw03_works.j0 k t204 (!t214))) else (none)) else (incunablelaw03_works.j0 k t204 true))
theorem incunablelaw03_works.mono_l : ∀ k, (∀ y0 y1, LeO (incunablelaw03_works.j0 k y0 y1) (incunablelaw03_works.j0 (k + 1) y0 y1))
  | 0 => fun _ _ r h => by simp [incunablelaw03_works.j0] at h
  | k + 1 => by
    have ih0 := incunablelaw03_works.mono_l k
    · intro y0 y1
      unfold incunablelaw03_works.j0
      repeat' first
      | (with_reducible exact ih0 _ _)
      | (with_reducible exact crc_Of.mono _ _)
      | (with_reducible exact incunablelaw03_one.mono _)
      | (with_reducible exact incunableref00_EqBytes.mono _ _ _)
      | (with_reducible exact pack_Size.mono _ _)
      | (with_reducible exact pack_Unpack.mono _ _)
      | (with_reducible exact LeO.refl _)
      | (with_reducible exact LeO.none _)
      | (with_reducible refine LeO.ite ?_ ?_)
      | (with_reducible refine LeO.bind ?_ (fun _ => ?_))
      | exact ih0 _ _
      | exact crc_Of.mono _ _
      | exact incunablelaw03_one.mono _
      | exact incunableref00_EqBytes.mono _ _ _
      | exact pack_Size.mono _ _
      | exact pack_Unpack.mono _ _
      | exact LeO.none _
      | refine LeO.ite ?_ ?_
      | refine LeO.bind ?_ (fun _ => ?_)
theorem incunablelaw03_works.mono : ∀ k, LeO (incunablelaw03_works.f k ) (incunablelaw03_works.f (k + 1) ) := by
  intro  k
  have ih0 := incunablelaw03_works.mono_l k
  unfold incunablelaw03_works.f
  repeat' first
      | (with_reducible exact ih0 _ _)
      | (with_reducible exact crc_Of.mono _ _)
      | (with_reducible exact incunablelaw03_one.mono _)
      | (with_reducible exact incunableref00_EqBytes.mono _ _ _)
      | (with_reducible exact pack_Size.mono _ _)
      | (with_reducible exact pack_Unpack.mono _ _)
      | (with_reducible exact LeO.refl _)
      | (with_reducible exact LeO.none _)
      | (with_reducible refine LeO.ite ?_ ?_)
      | (with_reducible refine LeO.bind ?_ (fun _ => ?_))
      | exact ih0 _ _
      | exact crc_Of.mono _ _
      | exact incunablelaw03_one.mono _
      | exact incunableref00_EqBytes.mono _ _ _
      | exact pack_Size.mono _ _
      | exact pack_Unpack.mono _ _
      | exact LeO.none _
      | refine LeO.ite ?_ ?_
      | refine LeO.bind ?_ (fun _ => ?_)
set_option maxHeartbeats 8000000 in
set_option maxRecDepth 100000 in
theorem incunablelaw03_works.calls (k : Nat)  (r : Bool) (w : World) (h : incunablelaw03_works.f k  = some r) :
    Calls Try.prog 19 #[] w fun e w' => e = .returned (.bool r) ∧ Below w.heap.size w w' := by
  have HB := Aside0.mk (Below.refl w.heap.size w)
  have H : ((incunablelaw03_one.f k).bind fun t204 => (if (t204.length : Int) = 16 then (if 12 ≤ (t204.length : Int) then ((incunableref00_EqBytes.f k (t204.take 12) (([73, 80, 16, 0, 0, 0, 7, 1, 1, 97, 4, 0] : List Int))).bind fun t214 => (incunablelaw03_works.j0 k t204 (!t214))) else (none)) else (incunablelaw03_works.j0 k t204 true))) = some r := h
  clear h
  replace H := Option.bind_eq_some_iff.mp H
  obtain ⟨t204, A10, H⟩ := H
  replace H : (if (t204.length : Int) = 16 then (if 12 ≤ (t204.length : Int) then ((incunableref00_EqBytes.f k (t204.take 12) (([73, 80, 16, 0, 0, 0, 7, 1, 1, 97, 4, 0] : List Int))).bind fun t214 => (incunablelaw03_works.j0 k t204 (!t214))) else (none)) else (incunablelaw03_works.j0 k t204 true)) = some r := H
  have A1 := Aside0.mk A10
  clear A10
  have HC2 := Aside0.mk H
  clear H
  go_enter Try.func19, Try.ntmps19
  dsimp only [List.append]
  go_upto_region 2 with (first | ((with_reducible refine gate_callee (f := 36) rfl ?_); refine goesL_ (some 17) rfl rfl Try.func36 (by kernel_rfl) rfl #[] rfl (by (try simp only [List.map_toArray, List.map_cons, List.map_nil]); first | done | rfl | (simp only [List.length_drop, List.length_take]; rfl)) ?_; (with_reducible refine (incunablelaw03_one.calls k  t204 _ A1.out).mono ?_); rintro e w3 ⟨v205, rfl, ho0, hb⟩; refine ⟨_, rfl, ?_⟩; have n0_ := Aside0.mk (Kd.R_lower ho0 (below_size (by repeat (first | (with_reducible first | exact HB.out | apply below_alloc | apply pw_below_drewN | apply below_drew1) | exact HB.out)))); have n1_ := Aside0.mk (below_step (by repeat (first | (with_reducible first | exact HB.out | apply below_alloc | apply pw_below_drewN | apply below_drew1) | exact HB.out)) hb); clear HB; have HO206 := n0_; have HB := n1_; clear n0_ n1_; (try clear hb); (try clear hb2); (try clear hk); (try clear hi); (try clear ho0)))
  (try simp only [Act.put, List.setIfInBounds_toArray, List.set_cons_zero, List.set_cons_succ])
  go_cut [27] (fun v27 wc => ∃ (kq : Nat) (x27_1 : Bool), v27 = .bool x27_1 ∧ Aside0 (incunablelaw03_works.j0 kq t204 x27_1 = some r) ∧ Aside0 (kq ≤ k) ∧ Aside0 (Kd.R (Kd.int .u8) 5 wc w.heap.size (fun _ => True) v205 t204) ∧ Aside0 (Below w.heap.size w wc))
  case first =>
    have H := HC2.out
    clear HC2
    by_cases c4 : (t204.length : Int) = 16
    · rw [if_pos c4] at H
      have c4b0 : ((t204.length : Int) == 16) = true := beq_iff_eq.mpr c4
      have c4b1 : ((t204.length : Int) != 16) = false := bne_eq_false_iff_eq.mpr c4
      clear c4
      (first | rw [c4b0] | (simp only [i64_w, i32_w]; rw [c4b0]) | skip)
      by_cases c5 : 12 ≤ (t204.length : Int)
      · rw [if_pos c5] at H
        have c5b0 := eq_true c5
        have c5b1 : decide (12 ≤ (t204.length : Int)) = true := decide_eq_true c5
        clear c5
        obtain ⟨y207, hy207⟩ : ∃ y_ : List Int, y_ = (t204.take 12) := ⟨_, rfl⟩
        replace H : ((incunableref00_EqBytes.f k y207 (([73, 80, 16, 0, 0, 0, 7, 1, 1, 97, 4, 0] : List Int))).bind fun t214 => (incunablelaw03_works.j0 k t204 (!t214))) = some r := by first | (rw [hy207]; with_reducible exact H) | (have H2_ := (Option.bind_some _ _).symm.trans H; rw [hy207]; with_reducible exact H2_) | (have H2_ := (Option.bind_some _ _).symm.trans H; with_reducible exact H2_) | with_reducible exact H | (rw [hy207]; exact H) | exact H
        have Ny207 := Aside0.mk hy207
        clear hy207
        obtain ⟨y211, hy211⟩ : ∃ y_ : List Int, y_ = (([73, 80, 16, 0, 0, 0, 7, 1, 1, 97, 4, 0] : List Int)) := ⟨_, rfl⟩
        replace H : ((incunableref00_EqBytes.f k y207 y211).bind fun t214 => (incunablelaw03_works.j0 k t204 (!t214))) = some r := by first | (rw [hy211]; with_reducible exact H) | (have H2_ := (Option.bind_some _ _).symm.trans H; rw [hy211]; with_reducible exact H2_) | (have H2_ := (Option.bind_some _ _).symm.trans H; with_reducible exact H2_) | with_reducible exact H | (rw [hy211]; exact H) | exact H
        have Ny211 := Aside0.mk hy211
        clear hy211
        replace H := Option.bind_eq_some_iff.mp H
        obtain ⟨t214, A60, H⟩ := H
        replace H : (incunablelaw03_works.j0 k t204 (!t214)) = some r := H
        have A6 := Aside0.mk A60
        clear A60
        have H' := Aside0.mk H
        clear H
        obtain ⟨Ao7, co7, eo7⟩ := Kd.R_slice HO206.out
        subst eo7
        have q8 : (12 : Int) ≤ ((t204.length : Int) : Int) := of_decide_eq_true (by first | (with_reducible assumption) | assumption)
        obtain ⟨i08, hi08, _, hsz8, _⟩ := info_parts info5
        have hroom8 : t204.length ≤ co7 := (Kd.R_reads' HO206.out).2.1
        have hC8 : Kd.C (Kd.int .u8) _ Ao7 t204.length t204 := (Kd.R_reads' HO206.out).2.2
        have hcut8 := cut_to (P := Try.prog) 22 5 .i64 Try.underlying22 hi08 Ao7 t204.length co7 12 (by omega) q8 hroom8
        have hr8 := Kd.C_take (m := 12) hC8 (by omega)
        have hy8 : y207.length = (12 : Int).toNat := (by rw [Ny207.out, List.length_take]; omega)
        rw [← Ny207.out] at hr8
        rw [← hy8] at hcut8
        have HR210 := Aside0.mk hr8
        have HC210 := Aside0.mk (show y207.length ≤ co7 from by omega)
        clear hr8 hC8 hroom8 hi08 hsz8
        have KY8 := Aside0.mk hy8
        clear hy8
        have KL8 := Aside0.mk (show 12 ≤ t204.length from by omega)
        replace q8 := eq_true q8
        go_wp2_with (first | ((with_reducible refine gate_dst (N := 24) rfl ?_); (try (refine gate_guard (by rfl) ?_; dsimp only)); refine Kd.R_lit (Kd.int .u8) _ 5 ?hg (N := 24) ?hd (xs := ([73, 80, 16, 0, 0, 0, 7, 1, 1, 97, 4, 0] : List Int)) (inner := [.int .u8 73, .int .u8 80, .int .u8 16, .int .u8 0, .int .u8 0, .int .u8 0, .int .u8 7, .int .u8 1, .int .u8 1, .int .u8 97, .int .u8 4, .int .u8 0]) (ok := fun _ => True) (okp := fun _ => True) ?hr ?hp (fun _ hk => hk) trivial (Below.refl _ _) (Nat.le_refl _) (by simp) ?_; (case hd => rfl); (case hg => rfl); (case hr => first | (go_simp; done) | (go_simp; rfl)); (case hp => exact (Reps.one (show Kd.M (Kd.int .u8) _ _ _ 73 [.int .u8 73] from rfl) (Reps.one (show Kd.M (Kd.int .u8) _ _ _ 80 [.int .u8 80] from rfl) (Reps.one (show Kd.M (Kd.int .u8) _ _ _ 16 [.int .u8 16] from rfl) (Reps.one (show Kd.M (Kd.int .u8) _ _ _ 0 [.int .u8 0] from rfl) (Reps.one (show Kd.M (Kd.int .u8) _ _ _ 0 [.int .u8 0] from rfl) (Reps.one (show Kd.M (Kd.int .u8) _ _ _ 0 [.int .u8 0] from rfl) (Reps.one (show Kd.M (Kd.int .u8) _ _ _ 7 [.int .u8 7] from rfl) (Reps.one (show Kd.M (Kd.int .u8) _ _ _ 1 [.int .u8 1] from rfl) (Reps.one (show Kd.M (Kd.int .u8) _ _ _ 1 [.int .u8 1] from rfl) (Reps.one (show Kd.M (Kd.int .u8) _ _ _ 97 [.int .u8 97] from rfl) (Reps.one (show Kd.M (Kd.int .u8) _ _ _ 4 [.int .u8 4] from rfl) (Reps.one (show Kd.M (Kd.int .u8) _ _ _ 0 [.int .u8 0] from rfl) (Reps.none _ _)))))))))))))); intro v212 w9 ho10 hb hg_ hnew_; clear hg_ hnew_; (first | rw [← Ny211.out] at ho10 | (simp only [Int.reduceToNat] at ho10; rw [← Ny211.out] at ho10)); have n0_ := Aside0.mk (Kd.R_elder' (by (with_reducible repeat (first | apply Kd.R_alloc | apply Kd.R_drewN | apply Kd.R_drew)); exact HO206.out) (Kd.R_base ho10) hb); have n1_ := Aside0.mk (Kd.R_lower (Kd.R_new' ho10 (Kd.R_lt (by (with_reducible repeat (first | apply Kd.R_alloc | apply Kd.R_drewN | apply Kd.R_drew)); exact HO206.out))) (below_size (by repeat (first | (with_reducible first | exact HB.out | apply below_alloc | apply pw_below_drewN | apply below_drew1) | exact HB.out)))); have n2_ := Aside0.mk (Kd.C_belowB (by first | (with_reducible exact HR210.out) | (with_reducible exact Kd.C_drewN HR210.out _) | repeat (first | (with_reducible exact HR210.out) | (with_reducible refine Kd.C_alloc ?_ _) | (with_reducible refine Kd.C_drewN ?_ _) | (with_reducible refine Kd.C_drew ?_) | exact HR210.out)) hb rfl); have n3_ := Aside0.mk (below_step (by repeat (first | (with_reducible first | exact HB.out | apply below_alloc | apply pw_below_drewN | apply below_drew1) | exact HB.out)) hb); clear HO206; clear HR210; clear HB; have HO206 := n0_; have HO213 := n1_; have HR210 := n2_; have HB := n3_; clear n0_ n1_ n2_ n3_; clear hb ho10; obtain ⟨Ao11, co11, eo11⟩ := Kd.R_slice HO213.out; subst eo11) | (go_at_call 18; (with_reducible refine (incunableref00_EqBytes.calls k _ _ y207 _ _ y211 t214 _ ?side1 ?side2 ?side3 ?side4 A6.out).mono ?_); (case side1 => repeat (first | exact (by first | (with_reducible exact HR210.out) | (with_reducible exact Kd.C_drewN HR210.out _) | repeat (first | (with_reducible exact HR210.out) | (with_reducible refine Kd.C_alloc ?_ _) | (with_reducible refine Kd.C_drewN ?_ _) | (with_reducible refine Kd.C_drew ?_) | exact HR210.out)) | (with_reducible refine Kd.C_alloc ?_ _) | (with_reducible refine Kd.C_drewN ?_ _) | (with_reducible refine Kd.C_drew ?_))); (case side2 => exact HC210.out); (case side3 => repeat (first | exact (Kd.R_reads' HO213.out).2.2 | (with_reducible refine Kd.C_alloc ?_ _) | (with_reducible refine Kd.C_drewN ?_ _) | (with_reducible refine Kd.C_drew ?_))); (case side4 => exact (Kd.R_reads' HO213.out).2.1); rintro e w' ⟨rfl, ⟨nd, rfl⟩⟩))
        go_meet
        case rel => exact ⟨_, (!t214), (by first | rfl | (simp; done) | (simp [*]; done)), H', ⟨by first | omega | exact Nat.le_refl _⟩, ⟨by (with_reducible repeat (first | apply Kd.R_alloc | apply Kd.R_drewN | apply Kd.R_drew)); exact Kd.R_mono HO206.out (fun _ hk => trivial)⟩, ⟨by repeat (first | (with_reducible first | exact HB.out | apply below_alloc | apply pw_below_drewN | apply below_drew1) | exact HB.out)⟩⟩
      · rw [if_neg c5] at H
        exact absurd H (by simp)
    · rw [if_neg c4] at H
      have c4b0 : ((t204.length : Int) == 16) = false := beq_eq_false_iff_ne.mpr c4
      have c4b1 : ((t204.length : Int) != 16) = true := bne_iff_ne.mpr c4
      (first | rw [c4b0] | (simp only [i64_w, i32_w]; rw [c4b0]) | skip)
      have H' := Aside0.mk H
      clear H
      obtain ⟨Ao12, co12, eo12⟩ := Kd.R_slice HO206.out
      subst eo12
      go_wp2
      go_meet
      case rel => exact ⟨_, (true), (by first | rfl | (simp; done) | (simp [*]; done)), H', ⟨by first | omega | exact Nat.le_refl _⟩, ⟨by (with_reducible repeat (first | apply Kd.R_alloc | apply Kd.R_drewN | apply Kd.R_drew)); exact HO206.out⟩, ⟨by repeat (first | (with_reducible first | exact HB.out | apply below_alloc | apply pw_below_drewN | apply below_drew1) | exact HB.out)⟩⟩
  case rest =>
    clear HC2
    try clear c1
    try clear p2
    try clear c3
    try clear c4
    try clear c4b0
    try clear c4b1
    try clear c5
    try clear c5b0
    try clear c5b1
    try clear q8
    try clear q8
    obtain ⟨kq, x27_1, rfl, HA, HJ1, HO_1, HB⟩ := hcut
    cases kq with
    | zero => exact absurd HA.out (by simp [incunablelaw03_works.j0])
    | succ kj1 =>
      have H := HA.out
      clear HA
      simp only [incunablelaw03_works.j0] at H
      by_cases c13 : x27_1 = true
      · subst c13
        have H1 : (none) = some r := by rw [if_pos rfl] at H; exact H
        clear H
        have H := H1
        clear H1
        exact absurd H (by simp)
      · replace c13 := Bool.eq_false_iff.mpr c13
        subst c13
        have H1 : (if 12 ≤ (t204.length : Int) then ((crc_Of.f kj1 (t204.take 12)).bind fun t219 => ((pack_Size.f kj1 t204).bind fun bt220 => ((pack_Unpack.f kj1 t204).bind fun bt222 => (if 15 ≤ (t204.length : Int) then ((pack_Unpack.f kj1 (t204.take 15)).bind fun bt231 => ((incunableref00_CopyBytes.f t204).bind fun t236 => (if t236.length < 140737488355328 then ((pack_Unpack.f kj1 (t236 ++ [0])).bind fun bt242 => (if 15 < (t204.length : Int) then ((some (t204.set (15 : Int).toNat (Go.bits .xor .u8 (rd t204 15) 1) : List Int)).bind fun y248 => ((pack_Unpack.f kj1 y248).bind fun bt249 => ((incunableref00_EqBytes.f kj1 (y248.drop 12) (([(t219) % 256, (t219 / 256) % 256, (t219 / 65536) % 256, Go.bits .xor .u8 ((t219 / 16777216) % 256) 1] : List Int))).bind fun t261 => (if t261 = true then (if bt220.2 = 0 then (if bt220.1 = 16 then (if bt222.2.2 = 0 then (if bt222.1 = 7 then (if (bt222.2.1.length : Int) = 2 then (if 0 < (bt222.2.1.length : Int) then (if ((rd_T33 bt222.2.1 0).f0) = 1 then ((incunableref00_EqBytes.f kj1 ((rd_T33 bt222.2.1 0).f1) (([97] : List Int))).bind fun t267 => (if t267 = true then (if bt231.2.2 = 3 then (if bt242.2.2 = 4 then (some (bt249.2.2 == 30)) else (none)) else (none)) else (none))) else (none)) else (none)) else (none)) else (none)) else (none)) else (none)) else (none)) else (none))))) else (none))) else (none)))) else (none))))) else (none)) = some r := by rw [if_neg (show ¬ (false = true) by decide)] at H; exact H
        clear H
        have H := H1
        clear H1
        by_cases c14 : 12 ≤ (t204.length : Int)
        · rw [if_pos c14] at H
          have c14b0 := eq_true c14
          have c14b1 : decide (12 ≤ (t204.length : Int)) = true := decide_eq_true c14
          clear c14
          obtain ⟨y215, hy215⟩ : ∃ y_ : List Int, y_ = (t204.take 12) := ⟨_, rfl⟩
          replace H : ((crc_Of.f kj1 y215).bind fun t219 => ((pack_Size.f kj1 t204).bind fun bt220 => ((pack_Unpack.f kj1 t204).bind fun bt222 => (if 15 ≤ (t204.length : Int) then ((pack_Unpack.f kj1 (t204.take 15)).bind fun bt231 => ((incunableref00_CopyBytes.f t204).bind fun t236 => (if t236.length < 140737488355328 then ((pack_Unpack.f kj1 (t236 ++ [0])).bind fun bt242 => (if 15 < (t204.length : Int) then ((some (t204.set (15 : Int).toNat (Go.bits .xor .u8 (rd t204 15) 1) : List Int)).bind fun y248 => ((pack_Unpack.f kj1 y248).bind fun bt249 => ((incunableref00_EqBytes.f kj1 (y248.drop 12) (([(t219) % 256, (t219 / 256) % 256, (t219 / 65536) % 256, Go.bits .xor .u8 ((t219 / 16777216) % 256) 1] : List Int))).bind fun t261 => (if t261 = true then (if bt220.2 = 0 then (if bt220.1 = 16 then (if bt222.2.2 = 0 then (if bt222.1 = 7 then (if (bt222.2.1.length : Int) = 2 then (if 0 < (bt222.2.1.length : Int) then (if ((rd_T33 bt222.2.1 0).f0) = 1 then ((incunableref00_EqBytes.f kj1 ((rd_T33 bt222.2.1 0).f1) (([97] : List Int))).bind fun t267 => (if t267 = true then (if bt231.2.2 = 3 then (if bt242.2.2 = 4 then (some (bt249.2.2 == 30)) else (none)) else (none)) else (none))) else (none)) else (none)) else (none)) else (none)) else (none)) else (none)) else (none)) else (none))))) else (none))) else (none)))) else (none))))) = some r := by first | (rw [hy215]; with_reducible exact H) | (have H2_ := (Option.bind_some _ _).symm.trans H; rw [hy215]; with_reducible exact H2_) | (have H2_ := (Option.bind_some _ _).symm.trans H; with_reducible exact H2_) | with_reducible exact H | (rw [hy215]; exact H) | exact H
          have Ny215 := Aside0.mk hy215
          clear hy215
          replace H := Option.bind_eq_some_iff.mp H
          obtain ⟨t219, A150, H⟩ := H
          replace H : ((pack_Size.f kj1 t204).bind fun bt220 => ((pack_Unpack.f kj1 t204).bind fun bt222 => (if 15 ≤ (t204.length : Int) then ((pack_Unpack.f kj1 (t204.take 15)).bind fun bt231 => ((incunableref00_CopyBytes.f t204).bind fun t236 => (if t236.length < 140737488355328 then ((pack_Unpack.f kj1 (t236 ++ [0])).bind fun bt242 => (if 15 < (t204.length : Int) then ((some (t204.set (15 : Int).toNat (Go.bits .xor .u8 (rd t204 15) 1) : List Int)).bind fun y248 => ((pack_Unpack.f kj1 y248).bind fun bt249 => ((incunableref00_EqBytes.f kj1 (y248.drop 12) (([(t219) % 256, (t219 / 256) % 256, (t219 / 65536) % 256, Go.bits .xor .u8 ((t219 / 16777216) % 256) 1] : List Int))).bind fun t261 => (if t261 = true then (if bt220.2 = 0 then (if bt220.1 = 16 then (if bt222.2.2 = 0 then (if bt222.1 = 7 then (if (bt222.2.1.length : Int) = 2 then (if 0 < (bt222.2.1.length : Int) then (if ((rd_T33 bt222.2.1 0).f0) = 1 then ((incunableref00_EqBytes.f kj1 ((rd_T33 bt222.2.1 0).f1) (([97] : List Int))).bind fun t267 => (if t267 = true then (if bt231.2.2 = 3 then (if bt242.2.2 = 4 then (some (bt249.2.2 == 30)) else (none)) else (none)) else (none))) else (none)) else (none)) else (none)) else (none)) else (none)) else (none)) else (none)) else (none))))) else (none))) else (none)))) else (none)))) = some r := H
          have A15 := Aside0.mk A150
          clear A150
          replace H := Option.bind_eq_some_iff.mp H
          obtain ⟨⟨t220, t221⟩, A160, H⟩ := H
          replace H : ((pack_Unpack.f kj1 t204).bind fun bt222 => (if 15 ≤ (t204.length : Int) then ((pack_Unpack.f kj1 (t204.take 15)).bind fun bt231 => ((incunableref00_CopyBytes.f t204).bind fun t236 => (if t236.length < 140737488355328 then ((pack_Unpack.f kj1 (t236 ++ [0])).bind fun bt242 => (if 15 < (t204.length : Int) then ((some (t204.set (15 : Int).toNat (Go.bits .xor .u8 (rd t204 15) 1) : List Int)).bind fun y248 => ((pack_Unpack.f kj1 y248).bind fun bt249 => ((incunableref00_EqBytes.f kj1 (y248.drop 12) (([(t219) % 256, (t219 / 256) % 256, (t219 / 65536) % 256, Go.bits .xor .u8 ((t219 / 16777216) % 256) 1] : List Int))).bind fun t261 => (if t261 = true then (if t221 = 0 then (if t220 = 16 then (if bt222.2.2 = 0 then (if bt222.1 = 7 then (if (bt222.2.1.length : Int) = 2 then (if 0 < (bt222.2.1.length : Int) then (if ((rd_T33 bt222.2.1 0).f0) = 1 then ((incunableref00_EqBytes.f kj1 ((rd_T33 bt222.2.1 0).f1) (([97] : List Int))).bind fun t267 => (if t267 = true then (if bt231.2.2 = 3 then (if bt242.2.2 = 4 then (some (bt249.2.2 == 30)) else (none)) else (none)) else (none))) else (none)) else (none)) else (none)) else (none)) else (none)) else (none)) else (none)) else (none))))) else (none))) else (none)))) else (none))) = some r := H
          have A16 := Aside0.mk A160
          clear A160
          replace H := Option.bind_eq_some_iff.mp H
          obtain ⟨⟨t222, t223, t224⟩, A170, H⟩ := H
          replace H : (if 15 ≤ (t204.length : Int) then ((pack_Unpack.f kj1 (t204.take 15)).bind fun bt231 => ((incunableref00_CopyBytes.f t204).bind fun t236 => (if t236.length < 140737488355328 then ((pack_Unpack.f kj1 (t236 ++ [0])).bind fun bt242 => (if 15 < (t204.length : Int) then ((some (t204.set (15 : Int).toNat (Go.bits .xor .u8 (rd t204 15) 1) : List Int)).bind fun y248 => ((pack_Unpack.f kj1 y248).bind fun bt249 => ((incunableref00_EqBytes.f kj1 (y248.drop 12) (([(t219) % 256, (t219 / 256) % 256, (t219 / 65536) % 256, Go.bits .xor .u8 ((t219 / 16777216) % 256) 1] : List Int))).bind fun t261 => (if t261 = true then (if t221 = 0 then (if t220 = 16 then (if t224 = 0 then (if t222 = 7 then (if (t223.length : Int) = 2 then (if 0 < (t223.length : Int) then (if ((rd_T33 t223 0).f0) = 1 then ((incunableref00_EqBytes.f kj1 ((rd_T33 t223 0).f1) (([97] : List Int))).bind fun t267 => (if t267 = true then (if bt231.2.2 = 3 then (if bt242.2.2 = 4 then (some (bt249.2.2 == 30)) else (none)) else (none)) else (none))) else (none)) else (none)) else (none)) else (none)) else (none)) else (none)) else (none)) else (none))))) else (none))) else (none)))) else (none)) = some r := H
          have A17 := Aside0.mk A170
          clear A170
          by_cases c18 : 15 ≤ (t204.length : Int)
          · rw [if_pos c18] at H
            have c18b0 := eq_true c18
            have c18b1 : decide (15 ≤ (t204.length : Int)) = true := decide_eq_true c18
            clear c18
            obtain ⟨y227, hy227⟩ : ∃ y_ : List Int, y_ = (t204.take 15) := ⟨_, rfl⟩
            replace H : ((pack_Unpack.f kj1 y227).bind fun bt231 => ((incunableref00_CopyBytes.f t204).bind fun t236 => (if t236.length < 140737488355328 then ((pack_Unpack.f kj1 (t236 ++ [0])).bind fun bt242 => (if 15 < (t204.length : Int) then ((some (t204.set (15 : Int).toNat (Go.bits .xor .u8 (rd t204 15) 1) : List Int)).bind fun y248 => ((pack_Unpack.f kj1 y248).bind fun bt249 => ((incunableref00_EqBytes.f kj1 (y248.drop 12) (([(t219) % 256, (t219 / 256) % 256, (t219 / 65536) % 256, Go.bits .xor .u8 ((t219 / 16777216) % 256) 1] : List Int))).bind fun t261 => (if t261 = true then (if t221 = 0 then (if t220 = 16 then (if t224 = 0 then (if t222 = 7 then (if (t223.length : Int) = 2 then (if 0 < (t223.length : Int) then (if ((rd_T33 t223 0).f0) = 1 then ((incunableref00_EqBytes.f kj1 ((rd_T33 t223 0).f1) (([97] : List Int))).bind fun t267 => (if t267 = true then (if bt231.2.2 = 3 then (if bt242.2.2 = 4 then (some (bt249.2.2 == 30)) else (none)) else (none)) else (none))) else (none)) else (none)) else (none)) else (none)) else (none)) else (none)) else (none)) else (none))))) else (none))) else (none)))) = some r := by first | (rw [hy227]; with_reducible exact H) | (have H2_ := (Option.bind_some _ _).symm.trans H; rw [hy227]; with_reducible exact H2_) | (have H2_ := (Option.bind_some _ _).symm.trans H; with_reducible exact H2_) | with_reducible exact H | (rw [hy227]; exact H) | exact H
            have Ny227 := Aside0.mk hy227
            clear hy227
            replace H := Option.bind_eq_some_iff.mp H
            obtain ⟨⟨t231, t232, t233⟩, A190, H⟩ := H
            replace H : ((incunableref00_CopyBytes.f t204).bind fun t236 => (if t236.length < 140737488355328 then ((pack_Unpack.f kj1 (t236 ++ [0])).bind fun bt242 => (if 15 < (t204.length : Int) then ((some (t204.set (15 : Int).toNat (Go.bits .xor .u8 (rd t204 15) 1) : List Int)).bind fun y248 => ((pack_Unpack.f kj1 y248).bind fun bt249 => ((incunableref00_EqBytes.f kj1 (y248.drop 12) (([(t219) % 256, (t219 / 256) % 256, (t219 / 65536) % 256, Go.bits .xor .u8 ((t219 / 16777216) % 256) 1] : List Int))).bind fun t261 => (if t261 = true then (if t221 = 0 then (if t220 = 16 then (if t224 = 0 then (if t222 = 7 then (if (t223.length : Int) = 2 then (if 0 < (t223.length : Int) then (if ((rd_T33 t223 0).f0) = 1 then ((incunableref00_EqBytes.f kj1 ((rd_T33 t223 0).f1) (([97] : List Int))).bind fun t267 => (if t267 = true then (if t233 = 3 then (if bt242.2.2 = 4 then (some (bt249.2.2 == 30)) else (none)) else (none)) else (none))) else (none)) else (none)) else (none)) else (none)) else (none)) else (none)) else (none)) else (none))))) else (none))) else (none))) = some r := H
            have A19 := Aside0.mk A190
            clear A190
            replace H := Option.bind_eq_some_iff.mp H
            obtain ⟨t236, A200, H⟩ := H
            replace H : (if t236.length < 140737488355328 then ((pack_Unpack.f kj1 (t236 ++ [0])).bind fun bt242 => (if 15 < (t204.length : Int) then ((some (t204.set (15 : Int).toNat (Go.bits .xor .u8 (rd t204 15) 1) : List Int)).bind fun y248 => ((pack_Unpack.f kj1 y248).bind fun bt249 => ((incunableref00_EqBytes.f kj1 (y248.drop 12) (([(t219) % 256, (t219 / 256) % 256, (t219 / 65536) % 256, Go.bits .xor .u8 ((t219 / 16777216) % 256) 1] : List Int))).bind fun t261 => (if t261 = true then (if t221 = 0 then (if t220 = 16 then (if t224 = 0 then (if t222 = 7 then (if (t223.length : Int) = 2 then (if 0 < (t223.length : Int) then (if ((rd_T33 t223 0).f0) = 1 then ((incunableref00_EqBytes.f kj1 ((rd_T33 t223 0).f1) (([97] : List Int))).bind fun t267 => (if t267 = true then (if t233 = 3 then (if bt242.2.2 = 4 then (some (bt249.2.2 == 30)) else (none)) else (none)) else (none))) else (none)) else (none)) else (none)) else (none)) else (none)) else (none)) else (none)) else (none))))) else (none))) else (none)) = some r := H
            have A20 := Aside0.mk A200
            clear A200
            by_cases c21 : t236.length < 140737488355328
            · rw [if_pos c21] at H
              have LMc21 := Aside0.mk c21
              clear c21
              obtain ⟨y239, hy239⟩ : ∃ y_ : List Int, y_ = (t236 ++ [0]) := ⟨_, rfl⟩
              replace H : ((pack_Unpack.f kj1 y239).bind fun bt242 => (if 15 < (t204.length : Int) then ((some (t204.set (15 : Int).toNat (Go.bits .xor .u8 (rd t204 15) 1) : List Int)).bind fun y248 => ((pack_Unpack.f kj1 y248).bind fun bt249 => ((incunableref00_EqBytes.f kj1 (y248.drop 12) (([(t219) % 256, (t219 / 256) % 256, (t219 / 65536) % 256, Go.bits .xor .u8 ((t219 / 16777216) % 256) 1] : List Int))).bind fun t261 => (if t261 = true then (if t221 = 0 then (if t220 = 16 then (if t224 = 0 then (if t222 = 7 then (if (t223.length : Int) = 2 then (if 0 < (t223.length : Int) then (if ((rd_T33 t223 0).f0) = 1 then ((incunableref00_EqBytes.f kj1 ((rd_T33 t223 0).f1) (([97] : List Int))).bind fun t267 => (if t267 = true then (if t233 = 3 then (if bt242.2.2 = 4 then (some (bt249.2.2 == 30)) else (none)) else (none)) else (none))) else (none)) else (none)) else (none)) else (none)) else (none)) else (none)) else (none)) else (none))))) else (none))) = some r := by first | (rw [hy239]; with_reducible exact H) | (have H2_ := (Option.bind_some _ _).symm.trans H; rw [hy239]; with_reducible exact H2_) | (have H2_ := (Option.bind_some _ _).symm.trans H; with_reducible exact H2_) | with_reducible exact H | (rw [hy239]; exact H) | exact H
              have Ny239 := Aside0.mk hy239
              clear hy239
              replace H := Option.bind_eq_some_iff.mp H
              obtain ⟨⟨t242, t243, t244⟩, A220, H⟩ := H
              replace H : (if 15 < (t204.length : Int) then ((some (t204.set (15 : Int).toNat (Go.bits .xor .u8 (rd t204 15) 1) : List Int)).bind fun y248 => ((pack_Unpack.f kj1 y248).bind fun bt249 => ((incunableref00_EqBytes.f kj1 (y248.drop 12) (([(t219) % 256, (t219 / 256) % 256, (t219 / 65536) % 256, Go.bits .xor .u8 ((t219 / 16777216) % 256) 1] : List Int))).bind fun t261 => (if t261 = true then (if t221 = 0 then (if t220 = 16 then (if t224 = 0 then (if t222 = 7 then (if (t223.length : Int) = 2 then (if 0 < (t223.length : Int) then (if ((rd_T33 t223 0).f0) = 1 then ((incunableref00_EqBytes.f kj1 ((rd_T33 t223 0).f1) (([97] : List Int))).bind fun t267 => (if t267 = true then (if t233 = 3 then (if t244 = 4 then (some (bt249.2.2 == 30)) else (none)) else (none)) else (none))) else (none)) else (none)) else (none)) else (none)) else (none)) else (none)) else (none)) else (none))))) else (none)) = some r := H
              have A22 := Aside0.mk A220
              clear A220
              by_cases c23 : 15 < (t204.length : Int)
              · rw [if_pos c23] at H
                have c23b0 : decide (15 < (t204.length : Int)) = true := decide_eq_true c23
                have c23b1 : decide (15 < t204.length) = true := decide_eq_true (by omega)
                clear c23
                obtain ⟨y248, hy248⟩ : ∃ y_ : List Int, y_ = (t204.set (15 : Int).toNat (Go.bits .xor .u8 (rd t204 15) 1)) := ⟨_, rfl⟩
                replace H : ((pack_Unpack.f kj1 y248).bind fun bt249 => ((incunableref00_EqBytes.f kj1 (y248.drop 12) (([(t219) % 256, (t219 / 256) % 256, (t219 / 65536) % 256, Go.bits .xor .u8 ((t219 / 16777216) % 256) 1] : List Int))).bind fun t261 => (if t261 = true then (if t221 = 0 then (if t220 = 16 then (if t224 = 0 then (if t222 = 7 then (if (t223.length : Int) = 2 then (if 0 < (t223.length : Int) then (if ((rd_T33 t223 0).f0) = 1 then ((incunableref00_EqBytes.f kj1 ((rd_T33 t223 0).f1) (([97] : List Int))).bind fun t267 => (if t267 = true then (if t233 = 3 then (if t244 = 4 then (some (bt249.2.2 == 30)) else (none)) else (none)) else (none))) else (none)) else (none)) else (none)) else (none)) else (none)) else (none)) else (none)) else (none)))) = some r := by first | (rw [hy248]; with_reducible exact H) | (have H2_ := (Option.bind_some _ _).symm.trans H; rw [hy248]; with_reducible exact H2_) | (have H2_ := (Option.bind_some _ _).symm.trans H; with_reducible exact H2_) | with_reducible exact H | (rw [hy248]; exact H) | exact H
                have Ny248 := Aside0.mk hy248
                clear hy248
                replace H := Option.bind_eq_some_iff.mp H
                obtain ⟨⟨t249, t250, t251⟩, A250, H⟩ := H
                replace H : ((incunableref00_EqBytes.f kj1 (y248.drop 12) (([(t219) % 256, (t219 / 256) % 256, (t219 / 65536) % 256, Go.bits .xor .u8 ((t219 / 16777216) % 256) 1] : List Int))).bind fun t261 => (if t261 = true then (if t221 = 0 then (if t220 = 16 then (if t224 = 0 then (if t222 = 7 then (if (t223.length : Int) = 2 then (if 0 < (t223.length : Int) then (if ((rd_T33 t223 0).f0) = 1 then ((incunableref00_EqBytes.f kj1 ((rd_T33 t223 0).f1) (([97] : List Int))).bind fun t267 => (if t267 = true then (if t233 = 3 then (if t244 = 4 then (some (t251 == 30)) else (none)) else (none)) else (none))) else (none)) else (none)) else (none)) else (none)) else (none)) else (none)) else (none)) else (none))) = some r := H
                have A25 := Aside0.mk A250
                clear A250
                have c26b0 := eq_true (of_decide_eq_true (by first | (with_reducible assumption) | assumption) : 12 ≤ (t204.length : Int))
                obtain ⟨y254, hy254⟩ : ∃ y_ : List Int, y_ = (y248.drop 12) := ⟨_, rfl⟩
                replace H : ((incunableref00_EqBytes.f kj1 y254 (([(t219) % 256, (t219 / 256) % 256, (t219 / 65536) % 256, Go.bits .xor .u8 ((t219 / 16777216) % 256) 1] : List Int))).bind fun t261 => (if t261 = true then (if t221 = 0 then (if t220 = 16 then (if t224 = 0 then (if t222 = 7 then (if (t223.length : Int) = 2 then (if 0 < (t223.length : Int) then (if ((rd_T33 t223 0).f0) = 1 then ((incunableref00_EqBytes.f kj1 ((rd_T33 t223 0).f1) (([97] : List Int))).bind fun t267 => (if t267 = true then (if t233 = 3 then (if t244 = 4 then (some (t251 == 30)) else (none)) else (none)) else (none))) else (none)) else (none)) else (none)) else (none)) else (none)) else (none)) else (none)) else (none))) = some r := by first | (rw [hy254]; with_reducible exact H) | (have H2_ := (Option.bind_some _ _).symm.trans H; rw [hy254]; with_reducible exact H2_) | (have H2_ := (Option.bind_some _ _).symm.trans H; with_reducible exact H2_) | with_reducible exact H | (rw [hy254]; exact H) | exact H
                have Ny254 := Aside0.mk hy254
                clear hy254
                obtain ⟨y258, hy258⟩ : ∃ y_ : List Int, y_ = (([(t219) % 256, (t219 / 256) % 256, (t219 / 65536) % 256, Go.bits .xor .u8 ((t219 / 16777216) % 256) 1] : List Int)) := ⟨_, rfl⟩
                replace H : ((incunableref00_EqBytes.f kj1 y254 y258).bind fun t261 => (if t261 = true then (if t221 = 0 then (if t220 = 16 then (if t224 = 0 then (if t222 = 7 then (if (t223.length : Int) = 2 then (if 0 < (t223.length : Int) then (if ((rd_T33 t223 0).f0) = 1 then ((incunableref00_EqBytes.f kj1 ((rd_T33 t223 0).f1) (([97] : List Int))).bind fun t267 => (if t267 = true then (if t233 = 3 then (if t244 = 4 then (some (t251 == 30)) else (none)) else (none)) else (none))) else (none)) else (none)) else (none)) else (none)) else (none)) else (none)) else (none)) else (none))) = some r := by first | (rw [hy258]; with_reducible exact H) | (have H2_ := (Option.bind_some _ _).symm.trans H; rw [hy258]; with_reducible exact H2_) | (have H2_ := (Option.bind_some _ _).symm.trans H; with_reducible exact H2_) | with_reducible exact H | (rw [hy258]; exact H) | exact H
                have Ny258 := Aside0.mk hy258
                clear hy258
                replace H := Option.bind_eq_some_iff.mp H
                obtain ⟨t261, A270, H⟩ := H
                replace H : (if t261 = true then (if t221 = 0 then (if t220 = 16 then (if t224 = 0 then (if t222 = 7 then (if (t223.length : Int) = 2 then (if 0 < (t223.length : Int) then (if ((rd_T33 t223 0).f0) = 1 then ((incunableref00_EqBytes.f kj1 ((rd_T33 t223 0).f1) (([97] : List Int))).bind fun t267 => (if t267 = true then (if t233 = 3 then (if t244 = 4 then (some (t251 == 30)) else (none)) else (none)) else (none))) else (none)) else (none)) else (none)) else (none)) else (none)) else (none)) else (none)) else (none)) = some r := H
                have A27 := Aside0.mk A270
                clear A270
                by_cases c28 : t261 = true
                · subst c28
                  have H1 : (if t221 = 0 then (if t220 = 16 then (if t224 = 0 then (if t222 = 7 then (if (t223.length : Int) = 2 then (if 0 < (t223.length : Int) then (if ((rd_T33 t223 0).f0) = 1 then ((incunableref00_EqBytes.f kj1 ((rd_T33 t223 0).f1) (([97] : List Int))).bind fun t267 => (if t267 = true then (if t233 = 3 then (if t244 = 4 then (some (t251 == 30)) else (none)) else (none)) else (none))) else (none)) else (none)) else (none)) else (none)) else (none)) else (none)) else (none)) = some r := by rw [if_pos rfl] at H; exact H
                  clear H
                  have H := H1
                  clear H1
                  by_cases c29 : t221 = 0
                  · rw [if_pos c29] at H
                    have c29b0 : (t221 == 0) = true := beq_iff_eq.mpr c29
                    have c29b1 : (t221 != 0) = false := bne_eq_false_iff_eq.mpr c29
                    clear c29
                    by_cases c30 : t220 = 16
                    · rw [if_pos c30] at H
                      have c30b0 : (t220 == 16) = true := beq_iff_eq.mpr c30
                      have c30b1 : (t220 != 16) = false := bne_eq_false_iff_eq.mpr c30
                      clear c30
                      by_cases c31 : t224 = 0
                      · rw [if_pos c31] at H
                        have c31b0 : (t224 == 0) = true := beq_iff_eq.mpr c31
                        have c31b1 : (t224 != 0) = false := bne_eq_false_iff_eq.mpr c31
                        clear c31
                        by_cases c32 : t222 = 7
                        · rw [if_pos c32] at H
                          have c32b0 : (t222 == 7) = true := beq_iff_eq.mpr c32
                          have c32b1 : (t222 != 7) = false := bne_eq_false_iff_eq.mpr c32
                          clear c32
                          by_cases c33 : (t223.length : Int) = 2
                          · rw [if_pos c33] at H
                            have c33b0 : ((t223.length : Int) == 2) = true := beq_iff_eq.mpr c33
                            have c33b1 : ((t223.length : Int) != 2) = false := bne_eq_false_iff_eq.mpr c33
                            clear c33
                            by_cases c34 : 0 < (t223.length : Int)
                            · rw [if_pos c34] at H
                              have c34b0 : decide (0 < (t223.length : Int)) = true := decide_eq_true c34
                              have c34b1 : decide (0 < t223.length) = true := decide_eq_true (by omega)
                              clear c34
                              by_cases c35 : ((rd_T33 t223 0).f0) = 1
                              · rw [if_pos c35] at H
                                have c35b0 : (((rd_T33 t223 0).f0) == 1) = true := beq_iff_eq.mpr c35
                                have c35b1 : (((rd_T33 t223 0).f0) != 1) = false := bne_eq_false_iff_eq.mpr c35
                                clear c35
                                obtain ⟨y264, hy264⟩ : ∃ y_ : List Int, y_ = (([97] : List Int)) := ⟨_, rfl⟩
                                replace H : ((incunableref00_EqBytes.f kj1 ((rd_T33 t223 0).f1) y264).bind fun t267 => (if t267 = true then (if t233 = 3 then (if t244 = 4 then (some (t251 == 30)) else (none)) else (none)) else (none))) = some r := by first | (rw [hy264]; with_reducible exact H) | (have H2_ := (Option.bind_some _ _).symm.trans H; rw [hy264]; with_reducible exact H2_) | (have H2_ := (Option.bind_some _ _).symm.trans H; with_reducible exact H2_) | with_reducible exact H | (rw [hy264]; exact H) | exact H
                                have Ny264 := Aside0.mk hy264
                                clear hy264
                                replace H := Option.bind_eq_some_iff.mp H
                                obtain ⟨t267, A360, H⟩ := H
                                replace H : (if t267 = true then (if t233 = 3 then (if t244 = 4 then (some (t251 == 30)) else (none)) else (none)) else (none)) = some r := H
                                have A36 := Aside0.mk A360
                                clear A360
                                by_cases c37 : t267 = true
                                · subst c37
                                  have H1 : (if t233 = 3 then (if t244 = 4 then (some (t251 == 30)) else (none)) else (none)) = some r := by rw [if_pos rfl] at H; exact H
                                  clear H
                                  have H := H1
                                  clear H1
                                  by_cases c38 : t233 = 3
                                  · rw [if_pos c38] at H
                                    have c38b0 : (t233 == 3) = true := beq_iff_eq.mpr c38
                                    have c38b1 : (t233 != 3) = false := bne_eq_false_iff_eq.mpr c38
                                    clear c38
                                    by_cases c39 : t244 = 4
                                    · rw [if_pos c39] at H
                                      have c39b0 : (t244 == 4) = true := beq_iff_eq.mpr c39
                                      have c39b1 : (t244 != 4) = false := bne_eq_false_iff_eq.mpr c39
                                      clear c39
                                      obtain rfl := Option.some.inj H
                                      obtain ⟨Ao41, co41, eo41⟩ := Kd.R_slice HO_1.out
                                      subst eo41
                                      have q40 : (12 : Int) ≤ ((t204.length : Int) : Int) := of_decide_eq_true (by first | (with_reducible assumption) | assumption)
                                      obtain ⟨i040, hi040, _, hsz40, _⟩ := info_parts info5
                                      have hroom40 : t204.length ≤ co41 := (Kd.R_reads' HO_1.out).2.1
                                      have hC40 : Kd.C (Kd.int .u8) _ Ao41 t204.length t204 := (Kd.R_reads' HO_1.out).2.2
                                      have hcut40 := cut_to (P := Try.prog) 22 5 .i64 Try.underlying22 hi040 Ao41 t204.length co41 12 (by omega) q40 hroom40
                                      have hr40 := Kd.C_take (m := 12) hC40 (by omega)
                                      have hy40 : y215.length = (12 : Int).toNat := (by rw [Ny215.out, List.length_take]; omega)
                                      rw [← Ny215.out] at hr40
                                      rw [← hy40] at hcut40
                                      have HR218 := Aside0.mk hr40
                                      have HC218 := Aside0.mk (show y215.length ≤ co41 from by omega)
                                      clear hr40 hC40 hroom40 hi040 hsz40
                                      have KY40 := Aside0.mk hy40
                                      clear hy40
                                      have KL40 := Aside0.mk (show 12 ≤ t204.length from by omega)
                                      replace q40 := eq_true q40
                                      go_wp2_with (first | ((with_reducible refine gate_callee (f := 30) rfl ?_); refine goesL_ (some 30) rfl rfl Try.func30 (by kernel_rfl) rfl #[.slice Ao41 y215.length co41] rfl (by (try simp only [List.map_toArray, List.map_cons, List.map_nil]); first | done | rfl | (simp only [List.length_drop, List.length_take]; rfl)) ?_; (with_reducible refine (crc_Of.calls kj1 _ _ y215 t219 _ ?side1 ?side2 A15.out).mono ?_); (case side1 => repeat (first | exact (by first | (with_reducible exact HR218.out) | (with_reducible exact Kd.C_drewN HR218.out _) | repeat (first | (with_reducible exact HR218.out) | (with_reducible refine Kd.C_alloc ?_ _) | (with_reducible refine Kd.C_drewN ?_ _) | (with_reducible refine Kd.C_drew ?_) | exact HR218.out)) | (with_reducible refine Kd.C_alloc ?_ _) | (with_reducible refine Kd.C_drewN ?_ _) | (with_reducible refine Kd.C_drew ?_))); (case side2 => exact HC218.out); rintro e w42 ⟨rfl, hb⟩; refine ⟨_, rfl, ?_⟩; have n0_ := Aside0.mk (Kd.R_below (by (with_reducible repeat (first | apply Kd.R_alloc | apply Kd.R_drewN | apply Kd.R_drew)); exact HO_1.out) hb); have n1_ := Aside0.mk (Kd.C_belowB (by first | (with_reducible exact HR218.out) | (with_reducible exact Kd.C_drewN HR218.out _) | repeat (first | (with_reducible exact HR218.out) | (with_reducible refine Kd.C_alloc ?_ _) | (with_reducible refine Kd.C_drewN ?_ _) | (with_reducible refine Kd.C_drew ?_) | exact HR218.out)) hb rfl); have n2_ := Aside0.mk (below_step (by repeat (first | (with_reducible first | exact HB.out | apply below_alloc | apply pw_below_drewN | apply below_drew1) | exact HB.out)) hb); clear HO_1; clear HR218; clear HB; have HO_1 := n0_; have HR218 := n1_; have HB := n2_; clear n0_ n1_ n2_; (try clear hb); (try clear hb2); (try clear hk); (try clear hi)) | ((with_reducible refine gate_callee (f := 12) rfl ?_); refine goesL_ (some 33) rfl rfl Try.func12 (by kernel_rfl) rfl #[.slice Ao41 t204.length co41] rfl (by (try simp only [List.map_toArray, List.map_cons, List.map_nil]); first | done | rfl | (simp only [List.length_drop, List.length_take]; rfl)) ?_; (with_reducible refine (pack_Size.calls kj1 _ _ t204 t220 t221 _ ?side1 ?side2 A16.out).mono ?_); (case side1 => repeat (first | exact (Kd.R_reads' HO_1.out).2.2 | (with_reducible refine Kd.C_alloc ?_ _) | (with_reducible refine Kd.C_drewN ?_ _) | (with_reducible refine Kd.C_drew ?_))); (case side2 => exact (Kd.R_reads' HO_1.out).2.1); rintro e w43 ⟨rfl, hb⟩; refine ⟨_, rfl, ?_⟩; have n0_ := Aside0.mk (Kd.R_below (by (with_reducible repeat (first | apply Kd.R_alloc | apply Kd.R_drewN | apply Kd.R_drew)); exact HO_1.out) hb); have n1_ := Aside0.mk (Kd.C_belowB (by first | (with_reducible exact HR218.out) | (with_reducible exact Kd.C_drewN HR218.out _) | repeat (first | (with_reducible exact HR218.out) | (with_reducible refine Kd.C_alloc ?_ _) | (with_reducible refine Kd.C_drewN ?_ _) | (with_reducible refine Kd.C_drew ?_) | exact HR218.out)) hb rfl); have n2_ := Aside0.mk (below_step (by repeat (first | (with_reducible first | exact HB.out | apply below_alloc | apply pw_below_drewN | apply below_drew1) | exact HB.out)) hb); clear HO_1; clear HR218; clear HB; have HO_1 := n0_; have HR218 := n1_; have HB := n2_; clear n0_ n1_ n2_; (try clear hb); (try clear hb2); (try clear hk); (try clear hi)) | ((with_reducible refine gate_callee (f := 14) rfl ?_); refine goesL_ (some 38) rfl rfl Try.func14 (by kernel_rfl) rfl #[.slice Ao41 t204.length co41] rfl (by (try simp only [List.map_toArray, List.map_cons, List.map_nil]); first | done | rfl | (simp only [List.length_drop, List.length_take]; rfl)) ?_; (with_reducible refine (pack_Unpack.calls kj1 _ _ t204 t222 t223 t224 _ ?side1 ?side2 A17.out).mono ?_); (case side1 => repeat (first | exact (Kd.R_reads' HO_1.out).2.2 | (with_reducible refine Kd.C_alloc ?_ _) | (with_reducible refine Kd.C_drewN ?_ _) | (with_reducible refine Kd.C_drew ?_))); (case side2 => exact (Kd.R_reads' HO_1.out).2.1); rintro e w44 ⟨v225, rfl, ho0, hb⟩; refine ⟨_, rfl, ?_⟩; have n0_ := Aside0.mk (Kd.R_below (by (with_reducible repeat (first | apply Kd.R_alloc | apply Kd.R_drewN | apply Kd.R_drew)); exact HO_1.out) hb); have n1_ := Aside0.mk (Kd.S_lower (Kd.S_new' ho0 (Kd.R_lt (by (with_reducible repeat (first | apply Kd.R_alloc | apply Kd.R_drewN | apply Kd.R_drew)); exact HO_1.out))) (below_size (by repeat (first | (with_reducible first | exact HB.out | apply below_alloc | apply pw_below_drewN | apply below_drew1) | exact HB.out)))); have n2_ := Aside0.mk (Kd.C_belowB (by first | (with_reducible exact HR218.out) | (with_reducible exact Kd.C_drewN HR218.out _) | repeat (first | (with_reducible exact HR218.out) | (with_reducible refine Kd.C_alloc ?_ _) | (with_reducible refine Kd.C_drewN ?_ _) | (with_reducible refine Kd.C_drew ?_) | exact HR218.out)) hb rfl); have n3_ := Aside0.mk (below_step (by repeat (first | (with_reducible first | exact HB.out | apply below_alloc | apply pw_below_drewN | apply below_drew1) | exact HB.out)) hb); clear HO_1; clear HR218; clear HB; have HO_1 := n0_; have HO226 := n1_; have HR218 := n2_; have HB := n3_; clear n0_ n1_ n2_ n3_; (try clear hb); (try clear hb2); (try clear hk); (try clear hi); (try clear ho0); have q45 : (15 : Int) ≤ ((t204.length : Int) : Int) := of_decide_eq_true (by first | (with_reducible assumption) | assumption); obtain ⟨i045, hi045, _, hsz45, _⟩ := info_parts info5; have hroom45 : t204.length ≤ co41 := (Kd.R_reads' HO_1.out).2.1; have hC45 : Kd.C (Kd.int .u8) _ Ao41 t204.length t204 := (Kd.R_reads' HO_1.out).2.2; have hcut45 := cut_to (P := Try.prog) 22 5 .i64 Try.underlying22 hi045 Ao41 t204.length co41 15 (by omega) q45 hroom45; have hr45 := Kd.C_take (m := 15) hC45 (by omega); have hy45 : y227.length = (15 : Int).toNat := (by rw [Ny227.out, List.length_take]; omega); rw [← Ny227.out] at hr45; rw [← hy45] at hcut45; have HR230 := Aside0.mk hr45; have HC230 := Aside0.mk (show y227.length ≤ co41 from by omega); clear hr45 hC45 hroom45 hi045 hsz45; have KY45 := Aside0.mk hy45; clear hy45; have KL45 := Aside0.mk (show 15 ≤ t204.length from by omega); replace q45 := eq_true q45) | ((with_reducible refine gate_callee (f := 14) rfl ?_); refine goesL_ (some 45) rfl rfl Try.func14 (by kernel_rfl) rfl #[.slice Ao41 y227.length co41] rfl (by (try simp only [List.map_toArray, List.map_cons, List.map_nil]); first | done | rfl | (simp only [List.length_drop, List.length_take]; rfl)) ?_; (with_reducible refine (pack_Unpack.calls kj1 _ _ y227 t231 t232 t233 _ ?side1 ?side2 A19.out).mono ?_); (case side1 => repeat (first | exact (by first | (with_reducible exact HR230.out) | (with_reducible exact Kd.C_drewN HR230.out _) | repeat (first | (with_reducible exact HR230.out) | (with_reducible refine Kd.C_alloc ?_ _) | (with_reducible refine Kd.C_drewN ?_ _) | (with_reducible refine Kd.C_drew ?_) | exact HR230.out)) | (with_reducible refine Kd.C_alloc ?_ _) | (with_reducible refine Kd.C_drewN ?_ _) | (with_reducible refine Kd.C_drew ?_))); (case side2 => exact HC230.out); rintro e w46 ⟨v234, rfl, ho0, hb⟩; refine ⟨_, rfl, ?_⟩; have n0_ := Aside0.mk (Kd.R_below (by (with_reducible repeat (first | apply Kd.R_alloc | apply Kd.R_drewN | apply Kd.R_drew)); exact HO_1.out) hb); have n1_ := Aside0.mk (Kd.S_elder' (by (with_reducible repeat (first | apply Kd.S_alloc | apply Kd.S_drewN | apply Kd.S_drew)); exact HO226.out) (Kd.S_base ho0) hb); have n2_ := Aside0.mk (Kd.S_lower (Kd.S_new' (Kd.S_new' ho0 (Kd.R_lt (by (with_reducible repeat (first | apply Kd.R_alloc | apply Kd.R_drewN | apply Kd.R_drew)); exact HO_1.out))) (Kd.S_lt (by (with_reducible repeat (first | apply Kd.S_alloc | apply Kd.S_drewN | apply Kd.S_drew)); exact HO226.out))) (below_size (by repeat (first | (with_reducible first | exact HB.out | apply below_alloc | apply pw_below_drewN | apply below_drew1) | exact HB.out)))); have n3_ := Aside0.mk (Kd.C_belowB (by first | (with_reducible exact HR218.out) | (with_reducible exact Kd.C_drewN HR218.out _) | repeat (first | (with_reducible exact HR218.out) | (with_reducible refine Kd.C_alloc ?_ _) | (with_reducible refine Kd.C_drewN ?_ _) | (with_reducible refine Kd.C_drew ?_) | exact HR218.out)) hb rfl); have n4_ := Aside0.mk (Kd.C_belowB (by first | (with_reducible exact HR230.out) | (with_reducible exact Kd.C_drewN HR230.out _) | repeat (first | (with_reducible exact HR230.out) | (with_reducible refine Kd.C_alloc ?_ _) | (with_reducible refine Kd.C_drewN ?_ _) | (with_reducible refine Kd.C_drew ?_) | exact HR230.out)) hb rfl); have n5_ := Aside0.mk (below_step (by repeat (first | (with_reducible first | exact HB.out | apply below_alloc | apply pw_below_drewN | apply below_drew1) | exact HB.out)) hb); clear HO_1; clear HO226; clear HR218; clear HR230; clear HB; have HO_1 := n0_; have HO226 := n1_; have HO235 := n2_; have HR218 := n3_; have HR230 := n4_; have HB := n5_; clear n0_ n1_ n2_ n3_ n4_ n5_; (try clear hb); (try clear hb2); (try clear hk); (try clear hi); (try clear ho0)) | ((with_reducible refine gate_callee (f := 11) rfl ?_); refine goesL_ (some 51) rfl rfl Try.func11 (by kernel_rfl) rfl #[.slice Ao41 t204.length co41] rfl (by (try simp only [List.map_toArray, List.map_cons, List.map_nil]); first | done | rfl | (simp only [List.length_drop, List.length_take]; rfl)) ?_; (with_reducible refine (incunableref00_CopyBytes.calls _ _ t204 t236 _ ?side1 ?side2 A20.out).mono ?_); (case side1 => repeat (first | exact (Kd.R_reads' HO_1.out).2.2 | (with_reducible refine Kd.C_alloc ?_ _) | (with_reducible refine Kd.C_drewN ?_ _) | (with_reducible refine Kd.C_drew ?_))); (case side2 => exact (Kd.R_reads' HO_1.out).2.1); rintro e w47 ⟨v237, rfl, ho0, hb⟩; refine ⟨_, rfl, ?_⟩; have n0_ := Aside0.mk (Kd.R_elder' (by (with_reducible repeat (first | apply Kd.R_alloc | apply Kd.R_drewN | apply Kd.R_drew)); exact HO_1.out) (Kd.R_base ho0) hb); have n1_ := Aside0.mk (Kd.S_elder' (by (with_reducible repeat (first | apply Kd.S_alloc | apply Kd.S_drewN | apply Kd.S_drew)); exact HO226.out) (Kd.R_base ho0) hb); have n2_ := Aside0.mk (Kd.R_lower (Kd.R_new' ho0 (Kd.R_lt (by (with_reducible repeat (first | apply Kd.R_alloc | apply Kd.R_drewN | apply Kd.R_drew)); exact HO_1.out))) (below_size (by repeat (first | (with_reducible first | exact HB.out | apply below_alloc | apply pw_below_drewN | apply below_drew1) | exact HB.out)))); have n3_ := Aside0.mk (Kd.C_belowB (by first | (with_reducible exact HR218.out) | (with_reducible exact Kd.C_drewN HR218.out _) | repeat (first | (with_reducible exact HR218.out) | (with_reducible refine Kd.C_alloc ?_ _) | (with_reducible refine Kd.C_drewN ?_ _) | (with_reducible refine Kd.C_drew ?_) | exact HR218.out)) hb rfl); have n4_ := Aside0.mk (Kd.C_belowB (by first | (with_reducible exact HR230.out) | (with_reducible exact Kd.C_drewN HR230.out _) | repeat (first | (with_reducible exact HR230.out) | (with_reducible refine Kd.C_alloc ?_ _) | (with_reducible refine Kd.C_drewN ?_ _) | (with_reducible refine Kd.C_drew ?_) | exact HR230.out)) hb rfl); have n5_ := Aside0.mk (below_step (by repeat (first | (with_reducible first | exact HB.out | apply below_alloc | apply pw_below_drewN | apply below_drew1) | exact HB.out)) hb); clear HO_1; clear HO226; clear HR218; clear HR230; clear HB; have HO_1 := n0_; have HO226 := n1_; have HO238 := n2_; have HR218 := n3_; have HR230 := n4_; have HB := n5_; clear n0_ n1_ n2_ n3_ n4_ n5_; (try clear hb); (try clear hb2); (try clear hk); (try clear hi); (try clear ho0)) | ((with_reducible refine gate_builtin (b := .append) (xs := #[.tmp 51, .tmp 52]) rfl ?_); (try (refine gate_guard (by rfl) ?_; dsimp only)); at_builtin; refine Kd.R_append (Kd.int .u8) (w0 := w) w.heap.size rfl (.tmp 51) (.tmp 52) 22 5 (.int .u8 0) 1 rfl Try.underlying22 info5 rfl (by decide) (by omega) v237 t236 0 [.int .u8 0] (fun k_ => some k_ ≠ (.slice Ao41 t204.length co41 : Value).ownBlock) (fun _ => False) rfl rfl ?aP (fun _ hk => hk.elim) ?aF ?aO ?aB ?aS ?aL ?_; (case aP => exact rfl); (case aB => exact (by repeat (first | (with_reducible first | exact HB.out | apply below_alloc | apply pw_below_drewN | apply below_drew1) | exact HB.out))); (case aF => exact (fun k_ hk => Kd.fresh' (Kd.R_lt (by (with_reducible repeat (first | apply Kd.R_alloc | apply Kd.R_drewN | apply Kd.R_drew)); exact HO_1.out)) k_ hk)); (case aO => exact (by (with_reducible repeat (first | apply Kd.R_alloc | apply Kd.R_drewN | apply Kd.R_drew)); exact Kd.R_mono HO238.out (fun _ hk => hk.2))); (case aS => exact (below_size (by repeat (first | (with_reducible first | exact HB.out | apply below_alloc | apply pw_below_drewN | apply below_drew1) | exact HB.out)))); (case aL => have := LMc21.out; omega); intro v240 w48 ho hb hg hat; rw [← Ny239.out] at ho; have n0_ := Aside0.mk (Kd.R_after (ok := (fun _ => True)) (by (with_reducible repeat (first | apply Kd.R_alloc | apply Kd.R_drewN | apply Kd.R_drew)); exact HO_1.out) hg hat); have n1_ := Aside0.mk (Kd.S_after (ok := (fun k_ => some k_ ≠ (.slice Ao41 t204.length co41 : Value).ownBlock)) (by (with_reducible repeat (first | apply Kd.S_alloc | apply Kd.S_drewN | apply Kd.S_drew)); exact Kd.S_mono HO226.out (fun _ hk => ⟨hk.1.1.2, hk.2⟩)) hg hat); have n2_ := Aside0.mk (hb); have n3_ := Aside0.mk ((show Kd.C (Kd.int .u8) w48 Ao41 y215.length y215 from by rw [Ny215.out]; exact Kd.C_take (m := 12) ((Kd.R_reads' (Kd.R_after (ok := (fun _ => True)) (by (with_reducible repeat (first | apply Kd.R_alloc | apply Kd.R_drewN | apply Kd.R_drew)); exact HO_1.out) hg hat)).2.2) KL40.out)); have n4_ := Aside0.mk ((show Kd.C (Kd.int .u8) w48 Ao41 y227.length y227 from by rw [Ny227.out]; exact Kd.C_take (m := 15) ((Kd.R_reads' (Kd.R_after (ok := (fun _ => True)) (by (with_reducible repeat (first | apply Kd.R_alloc | apply Kd.R_drewN | apply Kd.R_drew)); exact HO_1.out) hg hat)).2.2) KL45.out)); have n5_ := Aside0.mk (ho); clear HO_1; clear HO226; clear HB; clear HR218; clear HR230; clear HO238; have HO_1 := n0_; have HO226 := n1_; have HB := n2_; have HR218 := n3_; have HR230 := n4_; have HO241 := n5_; clear n0_ n1_ n2_ n3_ n4_ n5_; clear ho hb hg hat; obtain ⟨Ao49, co49, eo49⟩ := Kd.R_slice HO241.out; subst eo49) | ((with_reducible refine gate_callee (f := 14) rfl ?_); refine goesL_ (some 54) rfl rfl Try.func14 (by kernel_rfl) rfl #[.slice Ao49 y239.length co49] rfl (by (try simp only [List.map_toArray, List.map_cons, List.map_nil]); first | done | rfl | (simp only [List.length_drop, List.length_take]; rfl)) ?_; (with_reducible refine (pack_Unpack.calls kj1 _ _ y239 t242 t243 t244 _ ?side1 ?side2 A22.out).mono ?_); (case side1 => repeat (first | exact (Kd.R_reads' HO241.out).2.2 | (with_reducible refine Kd.C_alloc ?_ _) | (with_reducible refine Kd.C_drewN ?_ _) | (with_reducible refine Kd.C_drew ?_))); (case side2 => exact (Kd.R_reads' HO241.out).2.1); rintro e w50 ⟨v245, rfl, ho0, hb⟩; refine ⟨_, rfl, ?_⟩; have n0_ := Aside0.mk (Kd.R_below (by (with_reducible repeat (first | apply Kd.R_alloc | apply Kd.R_drewN | apply Kd.R_drew)); exact HO_1.out) hb); have n1_ := Aside0.mk (Kd.S_elder' (by (with_reducible repeat (first | apply Kd.S_alloc | apply Kd.S_drewN | apply Kd.S_drew)); exact HO226.out) (Kd.S_base ho0) hb); have n2_ := Aside0.mk (Kd.R_below (by (with_reducible repeat (first | apply Kd.R_alloc | apply Kd.R_drewN | apply Kd.R_drew)); exact HO241.out) hb); have n3_ := Aside0.mk (Kd.S_lower (Kd.S_new' (Kd.S_new' (Kd.S_new' ho0 (Kd.R_lt (by (with_reducible repeat (first | apply Kd.R_alloc | apply Kd.R_drewN | apply Kd.R_drew)); exact HO_1.out))) (Kd.S_lt (by (with_reducible repeat (first | apply Kd.S_alloc | apply Kd.S_drewN | apply Kd.S_drew)); exact HO226.out))) (Kd.R_lt (by (with_reducible repeat (first | apply Kd.R_alloc | apply Kd.R_drewN | apply Kd.R_drew)); exact HO241.out))) (below_size (by repeat (first | (with_reducible first | exact HB.out | apply below_alloc | apply pw_below_drewN | apply below_drew1) | exact HB.out)))); have n4_ := Aside0.mk (Kd.C_belowB (by first | (with_reducible exact HR218.out) | (with_reducible exact Kd.C_drewN HR218.out _) | repeat (first | (with_reducible exact HR218.out) | (with_reducible refine Kd.C_alloc ?_ _) | (with_reducible refine Kd.C_drewN ?_ _) | (with_reducible refine Kd.C_drew ?_) | exact HR218.out)) hb rfl); have n5_ := Aside0.mk (Kd.C_belowB (by first | (with_reducible exact HR230.out) | (with_reducible exact Kd.C_drewN HR230.out _) | repeat (first | (with_reducible exact HR230.out) | (with_reducible refine Kd.C_alloc ?_ _) | (with_reducible refine Kd.C_drewN ?_ _) | (with_reducible refine Kd.C_drew ?_) | exact HR230.out)) hb rfl); have n6_ := Aside0.mk (below_step (by repeat (first | (with_reducible first | exact HB.out | apply below_alloc | apply pw_below_drewN | apply below_drew1) | exact HB.out)) hb); clear HO_1; clear HO226; clear HO241; clear HR218; clear HR230; clear HB; have HO_1 := n0_; have HO226 := n1_; have HO241 := n2_; have HO246 := n3_; have HR218 := n4_; have HR230 := n5_; have HB := n6_; clear n0_ n1_ n2_ n3_ n4_ n5_ n6_; (try clear hb); (try clear hb2); (try clear hk); (try clear hi); (try clear ho0); have p247 : 0 ≤ (15 : Int) := (by omega); have q247 : 15 < (t204.length : Int) := of_decide_eq_true (by first | (with_reducible assumption) | assumption); obtain ⟨ad247, e247, hx247_0⟩ := Kd.at_int (Kd.R_reads' HO_1.out).2.2 15 p247 q247; cases e247; (try simp only [show (15 : Int).toNat = 15 from rfl, Nat.reduceMul, Nat.reduceEqDiff, Go.Addr.add, ↓reduceIte] at hx247_0); have qi247 : (15 < t204.length) = True := eq_true (by omega); (try rw [show ((15 : Int)).toNat = 15 from rfl] at hx247_0); replace p247 := eq_true p247; replace q247 := eq_true q247; have p24 : 0 ≤ (15 : Int) := (by omega); have q24 : (15 : Int) < ((t204.length : Int) : Int) := of_decide_eq_true (by first | (with_reducible assumption) | assumption); have qi24 : (15 < t204.length) = True := eq_true (by omega); obtain ⟨go24, co24, eo24, gb24, gl24, cl24, HG24⟩ := Kd.R_form HO_1.out (by omega); (first | cases eo24 | (injection eo24 with ea_ en_ ec_; (first | subst ea_ | (injection ea_ with ea_; subst ea_)); subst ec_; clear en_)); have GB24 := Aside0.mk gb24; have GG24 := Aside0.mk HG24; clear gb24 gl24 HG24; (first | simp only [add_plain] at hx247_0 | skip); obtain ⟨hx24_0, hf24_0⟩ := Kd.R_celln 0 HO_1.out (15 : Int) p24 q24; (try rw [show ((15 : Int)).toNat = 15 from rfl] at hx24_0); (try simp only [Nat.reduceMul, Nat.zero_mul, Nat.zero_add, Nat.reduceAdd] at hx24_0); (try rw [show ((15 : Int)).toNat = 15 from rfl] at hf24_0); (try simp only [Nat.reduceMul, Nat.zero_mul, Nat.zero_add, Nat.reduceAdd] at hf24_0); replace p24 := eq_true p24; replace q24 := eq_true q24; have n_ := Aside0.mk (Kd.R_mono (ok' := (fun _ => True)) HO_1.out (fun k_ hk => trivial)); clear HO_1; have HO_1 := n_; clear n_; obtain ⟨hy51_, hz51_⟩ := Kd.R_celln 0 HO_1.out (15 : Int) (by omega) (of_decide_eq_true (by first | (with_reducible assumption) | assumption)); (try simp only [Int.reduceToNat, Int.toNat_zero, Int.toNat_ofNat, Nat.reduceMul, Nat.zero_mul, Nat.zero_add] at hy51_ hz51_); (try rw [show ((15 : Int)).toNat = 15 from rfl] at hy51_); (try rw [show ((15 : Int)).toNat = 15 from rfl] at hz51_); have HP51 := Kd.R_putg HO_1.out (15 : Int) (Go.bits .xor .u8 (rd t204 15) 1)) | ((with_reducible refine gate_store (t := 5) (p := 63) rfl ?_); refine store_event (t := 5) (p := 63) (v := ?vo_w52) (w1 := (w50.setCell ⟨go24, (15 : Int).toNat, none⟩ (.int .u8 (Go.bits .xor .u8 (rd t204 15) 1)))) ?hg ?ho ?hn ?hr ?_; (case ho => rfl); (case hg => rfl); (case hn => rfl); (case hr => first | (go_simp; done) | (go_simp; rfl)); intro w52 hw; have hg : w50.grownBy w52 (some go24) := (by rw [hw]; exact HP51.2); have hp_ : Kd.R (Kd.int .u8) 5 w52 w.heap.size (fun _ => True) (.slice (some ⟨go24, 0, none⟩) t204.length co41) y248 := (by rw [hw, Ny248.out]; exact HP51.1); clear HP51; have n0_ := Aside0.mk (hp_); have n1_ := Aside0.mk (Kd.S_after (v := (.slice (some ⟨go24, 0, none⟩) t204.length co41)) (v1 := (.slice (some ⟨go24, 0, none⟩) t204.length co41)) (ok := (fun _ => True)) (by (with_reducible repeat (first | apply Kd.S_alloc | apply Kd.S_drewN | apply Kd.S_drew)); exact Kd.S_mono HO226.out (fun _ hk => ⟨trivial, hk.1.1⟩)) hg (.inl rfl)); have n2_ := Aside0.mk ((by rw [hw]; exact below_set (HB.out) GB24.out : Below w.heap.size w w52)); clear HO_1; clear HO226; clear HB; have HO_1 := n0_; have HO226 := n1_; have HB := n2_; clear n0_ n1_ n2_; clear hg hw hp_) | ((with_reducible refine gate_callee (f := 14) rfl ?_); refine goesL_ (some 66) rfl rfl Try.func14 (by kernel_rfl) rfl #[.slice (some ⟨go24, 0, none⟩) y248.length co41] rfl (by (try simp only [List.map_toArray, List.map_cons, List.map_nil]); first | done | (rw [show y248.length = t204.length from (Kd.R_reads' HO_1.out).1.symm] <;> rfl) | rfl | (simp only [List.length_drop, List.length_take]; rfl)) ?_; (with_reducible refine (pack_Unpack.calls kj1 _ _ y248 t249 t250 t251 _ ?side1 ?side2 A25.out).mono ?_); (case side1 => repeat (first | exact (Kd.R_reads' HO_1.out).2.2 | (with_reducible refine Kd.C_alloc ?_ _) | (with_reducible refine Kd.C_drewN ?_ _) | (with_reducible refine Kd.C_drew ?_))); (case side2 => rw [show y248.length = t204.length from (Kd.R_reads' HO_1.out).1.symm]; exact (Kd.R_reads' HO_1.out).2.1); rintro e w53 ⟨v252, rfl, ho0, hb⟩; refine ⟨_, rfl, ?_⟩; have n0_ := Aside0.mk (Kd.R_below (by (with_reducible repeat (first | apply Kd.R_alloc | apply Kd.R_drewN | apply Kd.R_drew)); exact HO_1.out) hb); have n1_ := Aside0.mk (Kd.S_elder' (by (with_reducible repeat (first | apply Kd.S_alloc | apply Kd.S_drewN | apply Kd.S_drew)); exact HO226.out) (Kd.S_base ho0) hb); have n2_ := Aside0.mk (Kd.S_lower (Kd.S_new' (Kd.S_new' ho0 (Kd.R_lt (by (with_reducible repeat (first | apply Kd.R_alloc | apply Kd.R_drewN | apply Kd.R_drew)); exact HO_1.out))) (Kd.S_lt (by (with_reducible repeat (first | apply Kd.S_alloc | apply Kd.S_drewN | apply Kd.S_drew)); exact HO226.out))) (below_size (by repeat (first | (with_reducible first | exact HB.out | apply below_alloc | apply pw_below_drewN | apply below_drew1) | exact HB.out)))); have n3_ := Aside0.mk (below_step (by repeat (first | (with_reducible first | exact HB.out | apply below_alloc | apply pw_below_drewN | apply below_drew1) | exact HB.out)) hb); clear HO_1; clear HO226; clear HB; have HO_1 := n0_; have HO226 := n1_; have HO253 := n2_; have HB := n3_; clear n0_ n1_ n2_ n3_; (try clear hb); (try clear hb2); (try clear hk); (try clear hi); (try clear ho0); have hlx54 := (Kd.R_reads' HO_1.out).1; have q54 : (12 : Int) ≤ ((t204.length : Int) : Int) := of_decide_eq_true (by first | (with_reducible assumption) | assumption); obtain ⟨i054, hi054, _, hsz54, _⟩ := info_parts info5; have hroom54 : t204.length ≤ co41 := (Kd.R_reads' HO_1.out).2.1; have hroomc54 : y248.length ≤ co41 := (by rw [← hlx54]; exact hroom54); have hC54 : Kd.C (Kd.int .u8) _ (some ⟨go24, 0, none⟩) y248.length y248 := (Kd.R_reads' HO_1.out).2.2; have hcut54 := cut_from (P := Try.prog) 22 5 .i64 Try.underlying22 hi054 1 hsz54 (some ⟨go24, 0, none⟩) t204.length co41 12 (by omega) q54; have hr54 := Kd.C_drop (m := (12 : Int).toNat) (c := co41) hC54 (by omega) hroomc54; obtain ⟨A54, hA54⟩ : ∃ A1, A1 = (if co41 = (12 : Int).toNat then (some ⟨go24, 0, none⟩) else ((some ⟨go24, 0, none⟩) : Option Addr).map (·.add ((12 : Int).toNat * 1))) := ⟨_, rfl⟩; obtain ⟨c54, hc54⟩ : ∃ c1, c1 = co41 - (12 : Int).toNat := ⟨_, rfl⟩; have hy54 : y254.length = t204.length - (12 : Int).toNat := (by rw [Ny254.out, List.length_drop] <;> omega); rw [show (y248).drop (12 : Int).toNat = y254 from Ny254.out.symm] at hr54; replace hr54 : Kd.C (Kd.int .u8) _ A54 y254.length y254 := (by rw [hA54]; exact hr54); rw [← hy54, ← hA54, ← hc54] at hcut54; have HR257 := Aside0.mk hr54; have HC257 := Aside0.mk (show y254.length ≤ c54 from by rw [hy54, hc54]; exact Nat.sub_le_sub_right hroom54 _); clear hr54 hC54 hroom54 hi054 hsz54 hc54 hroomc54; have KY54 := Aside0.mk hy54; have KA54 := Aside0.mk hA54; clear hy54 hA54; have KE54 := Aside0.mk hlx54; have KL54 := Aside0.mk (show 12 ≤ y248.length from by omega); clear hlx54; replace q54 := eq_true q54) | ((with_reducible refine gate_dst (N := 84) rfl ?_); (try (refine gate_guard (by rfl) ?_; dsimp only)); refine Kd.R_lit (Kd.int .u8) _ 5 ?hg (N := 84) ?hd (xs := ([(t219) % 256, (t219 / 256) % 256, (t219 / 65536) % 256, Go.bits .xor .u8 ((t219 / 16777216) % 256) 1] : List Int)) (inner := [.int .u8 ((t219) % 256), .int .u8 ((t219 / 256) % 256), .int .u8 ((t219 / 65536) % 256), .int .u8 (Go.bits .xor .u8 ((t219 / 16777216) % 256) 1)]) (ok := fun _ => True) (okp := fun _ => True) ?hr ?hp (fun _ hk => hk) trivial (Below.refl _ _) (Nat.le_refl _) (by simp) ?_; (case hd => rfl); (case hg => rfl); (case hr => first | (go_simp; done) | (go_simp; rfl)); (case hp => exact (Reps.one (show Kd.M (Kd.int .u8) _ _ _ ((t219) % 256) [.int .u8 ((t219) % 256)] from rfl) (Reps.one (show Kd.M (Kd.int .u8) _ _ _ ((t219 / 256) % 256) [.int .u8 ((t219 / 256) % 256)] from rfl) (Reps.one (show Kd.M (Kd.int .u8) _ _ _ ((t219 / 65536) % 256) [.int .u8 ((t219 / 65536) % 256)] from rfl) (Reps.one (show Kd.M (Kd.int .u8) _ _ _ (Go.bits .xor .u8 ((t219 / 16777216) % 256) 1) [.int .u8 (Go.bits .xor .u8 ((t219 / 16777216) % 256) 1)] from rfl) (Reps.none _ _)))))); intro v259 w55 ho56 hb hg_ hnew_; clear hg_ hnew_; (first | rw [← Ny258.out] at ho56 | (simp only [Int.reduceToNat] at ho56; rw [← Ny258.out] at ho56)); have n0_ := Aside0.mk (Kd.S_elder' (by (with_reducible repeat (first | apply Kd.S_alloc | apply Kd.S_drewN | apply Kd.S_drew)); exact HO226.out) (Kd.R_base ho56) hb); have n1_ := Aside0.mk (Kd.R_lower ho56 (below_size (by repeat (first | (with_reducible first | exact HB.out | apply below_alloc | apply pw_below_drewN | apply below_drew1) | exact HB.out)))); have n2_ := Aside0.mk (Kd.C_belowB (by first | (with_reducible exact HR257.out) | (with_reducible exact Kd.C_drewN HR257.out _) | repeat (first | (with_reducible exact HR257.out) | (with_reducible refine Kd.C_alloc ?_ _) | (with_reducible refine Kd.C_drewN ?_ _) | (with_reducible refine Kd.C_drew ?_) | exact HR257.out)) hb rfl); have n3_ := Aside0.mk (below_step (by repeat (first | (with_reducible first | exact HB.out | apply below_alloc | apply pw_below_drewN | apply below_drew1) | exact HB.out)) hb); clear HO226; clear HR257; clear HB; have HO226 := n0_; have HO260 := n1_; have HR257 := n2_; have HB := n3_; clear n0_ n1_ n2_ n3_; clear hb ho56; obtain ⟨Ao57, co57, eo57⟩ := Kd.R_slice HO260.out; subst eo57) | ((with_reducible refine gate_callee (f := 18) rfl ?_); refine goesL_ (some 85) rfl rfl Try.func18 (by kernel_rfl) rfl #[.slice A54 y254.length c54, .slice Ao57 y258.length co57] rfl (by (try simp only [List.map_toArray, List.map_cons, List.map_nil]); first | done | rfl | (simp only [List.length_drop, List.length_take]; rfl)) ?_; (with_reducible refine (incunableref00_EqBytes.calls kj1 _ _ y254 _ _ y258 true _ ?side1 ?side2 ?side3 ?side4 A27.out).mono ?_); (case side1 => repeat (first | exact (by first | (with_reducible exact HR257.out) | (with_reducible exact Kd.C_drewN HR257.out _) | repeat (first | (with_reducible exact HR257.out) | (with_reducible refine Kd.C_alloc ?_ _) | (with_reducible refine Kd.C_drewN ?_ _) | (with_reducible refine Kd.C_drew ?_) | exact HR257.out)) | (with_reducible refine Kd.C_alloc ?_ _) | (with_reducible refine Kd.C_drewN ?_ _) | (with_reducible refine Kd.C_drew ?_))); (case side2 => exact HC257.out); (case side3 => repeat (first | exact (Kd.R_reads' HO260.out).2.2 | (with_reducible refine Kd.C_alloc ?_ _) | (with_reducible refine Kd.C_drewN ?_ _) | (with_reducible refine Kd.C_drew ?_))); (case side4 => exact (Kd.R_reads' HO260.out).2.1); rintro e w' ⟨rfl, ⟨nd, rfl⟩⟩; refine ⟨_, rfl, ?_⟩; obtain ⟨Ao58, co58, eo58⟩ := Kd.S_slice HO226.out; subst eo58; have p262 : 0 ≤ (0 : Int) := (by omega); have q262 : 0 < (t223.length : Int) := of_decide_eq_true (by first | (with_reducible assumption) | assumption); obtain ⟨ad262, A262_1, c262_1, e262, hx262_0, hx262_1, hl262_1, hi262_1⟩ := at_T33 (Kd.S_reads' HO226.out).2.2 0 p262 q262; cases e262; obtain ⟨ce262, hce262, hMe262, hcc262⟩ := Kd.S_get HO226.out z33 0 p262 (by first | exact q262 | exact of_decide_eq_true (by first | (with_reducible assumption) | assumption) | (have e_ := (Kd.S_reads' HO226.out).1; omega)); obtain ⟨ve262_1, rfl, ge262_1⟩ := k33_openM hMe262; have hv262_1 := hcc262 1 _ rfl; rw [add_field _ _ 1 (by omega)] at hv262_1; replace hv262_1 := Option.some.inj (hv262_1.symm.trans hx262_1); rw [hv262_1] at ge262_1; have HL262_1 := Aside0.mk (show Kd.R (Kd.int .u8) 5 _ _ _ _ ((rd_T33 t223 0).f1) from ge262_1); clear hv262_1 ge262_1; clear hcc262 hce262; have qi262 : (0 < t223.length) = True := eq_true (by omega); (try rw [show ((0 : Int)).toNat = 0 from rfl] at hx262_0); (try rw [show 0 * 2 = 0 from rfl] at hx262_0); (try rw [Addr.add_zero'] at hx262_0); (try rw [show ((0 : Int)).toNat = 0 from rfl] at hx262_1); (try rw [show 0 * 2 = 0 from rfl] at hx262_1); (try rw [Addr.add_zero'] at hx262_1); have HR262_1 := Aside0.mk hi262_1; have HC262_1 := Aside0.mk hl262_1; clear hi262_1 hl262_1; replace p262 := eq_true p262; replace q262 := eq_true q262; have p263 : 0 ≤ (0 : Int) := (by omega); have q263 : 0 < (t223.length : Int) := of_decide_eq_true (by first | (with_reducible assumption) | assumption); obtain ⟨ad263, A263_1, c263_1, e263, hx263_0, hx263_1, hl263_1, hi263_1⟩ := at_T33 (Kd.S_reads' HO226.out).2.2 0 p263 q263; obtain rfl : ad262 = ad263 := (by injection e263); obtain ⟨ce263, hce263, hMe263, hcc263⟩ := Kd.S_get HO226.out z33 0 p263 (by first | exact q263 | exact of_decide_eq_true (by first | (with_reducible assumption) | assumption) | (have e_ := (Kd.S_reads' HO226.out).1; omega)); obtain ⟨ve263_1, rfl, ge263_1⟩ := k33_openM hMe263; have hv263_1 := hcc263 1 _ rfl; rw [add_field _ _ 1 (by omega)] at hv263_1; replace hv263_1 := Option.some.inj (hv263_1.symm.trans hx263_1); rw [hv263_1] at ge263_1; have HL263_1 := Aside0.mk (show Kd.R (Kd.int .u8) 5 _ _ _ _ ((rd_T33 t223 0).f1) from ge263_1); clear hv263_1 ge263_1; clear hcc263 hce263; have qi263 : (0 < t223.length) = True := eq_true (by omega); (try rw [show ((0 : Int)).toNat = 0 from rfl] at hx263_0); (try rw [show 0 * 2 = 0 from rfl] at hx263_0); (try rw [Addr.add_zero'] at hx263_0); (try rw [show ((0 : Int)).toNat = 0 from rfl] at hx263_1); (try rw [show 0 * 2 = 0 from rfl] at hx263_1); (try rw [Addr.add_zero'] at hx263_1); have HR263_1 := Aside0.mk hi263_1; have HC263_1 := Aside0.mk hl263_1; clear hi263_1 hl263_1; replace p263 := eq_true p263; replace q263 := eq_true q263; have ea_ := Option.some.inj (hx262_1.symm.trans hx263_1); injection ea_ with ea_ en_ ec_; subst ea_; subst ec_; clear en_) | ((with_reducible refine gate_dst (N := 119) rfl ?_); (try (refine gate_guard (by rfl) ?_; dsimp only)); refine Kd.R_lit (Kd.int .u8) _ 5 ?hg (N := 119) ?hd (xs := ([97] : List Int)) (inner := [.int .u8 97]) (ok := fun _ => True) (okp := fun _ => True) ?hr ?hp (fun _ hk => hk) trivial (Below.refl _ _) (Nat.le_refl _) (by simp) ?_; (case hd => rfl); (case hg => rfl); (case hr => first | (go_simp; done) | (go_simp; rfl)); (case hp => exact (Reps.one (show Kd.M (Kd.int .u8) _ _ _ 97 [.int .u8 97] from rfl) (Reps.none _ _))); intro v265 w59 ho60 hb hg_ hnew_; clear hg_ hnew_; (first | rw [← Ny264.out] at ho60 | (simp only [Int.reduceToNat] at ho60; rw [← Ny264.out] at ho60)); have n0_ := Aside0.mk (Kd.R_lower ho60 (below_size (by repeat (first | (with_reducible first | exact HB.out | apply below_alloc | apply pw_below_drewN | apply below_drew1) | exact HB.out)))); have n1_ := Aside0.mk (Kd.C_belowB (by first | (with_reducible exact HR257.out) | (with_reducible exact Kd.C_drewN HR257.out _) | repeat (first | (with_reducible exact HR257.out) | (with_reducible refine Kd.C_alloc ?_ _) | (with_reducible refine Kd.C_drewN ?_ _) | (with_reducible refine Kd.C_drew ?_) | exact HR257.out)) hb rfl); have n2_ := Aside0.mk (Kd.C_belowB (by first | (with_reducible exact HR262_1.out) | (with_reducible exact Kd.C_drewN HR262_1.out _) | repeat (first | (with_reducible exact HR262_1.out) | (with_reducible refine Kd.C_alloc ?_ _) | (with_reducible refine Kd.C_drewN ?_ _) | (with_reducible refine Kd.C_drew ?_) | exact HR262_1.out)) hb rfl); have n3_ := Aside0.mk (Kd.C_belowB (by first | (with_reducible exact HR263_1.out) | (with_reducible exact Kd.C_drewN HR263_1.out _) | repeat (first | (with_reducible exact HR263_1.out) | (with_reducible refine Kd.C_alloc ?_ _) | (with_reducible refine Kd.C_drewN ?_ _) | (with_reducible refine Kd.C_drew ?_) | exact HR263_1.out)) hb rfl); have n4_ := Aside0.mk (below_step (by repeat (first | (with_reducible first | exact HB.out | apply below_alloc | apply pw_below_drewN | apply below_drew1) | exact HB.out)) hb); clear HR257; clear HR262_1; clear HR263_1; clear HB; have HO266 := n0_; have HR257 := n1_; have HR262_1 := n2_; have HR263_1 := n3_; have HB := n4_; clear n0_ n1_ n2_ n3_ n4_; clear hb ho60; obtain ⟨Ao61, co61, eo61⟩ := Kd.R_slice HO266.out; subst eo61) | (go_at_call 18; (with_reducible refine (incunableref00_EqBytes.calls kj1 _ _ ((rd_T33 t223 0).f1) _ _ y264 true _ ?side1 ?side2 ?side3 ?side4 A36.out).mono ?_); (case side1 => repeat (first | exact (by first | (with_reducible exact HR263_1.out) | (with_reducible exact Kd.C_drewN HR263_1.out _) | repeat (first | (with_reducible exact HR263_1.out) | (with_reducible refine Kd.C_alloc ?_ _) | (with_reducible refine Kd.C_drewN ?_ _) | (with_reducible refine Kd.C_drew ?_) | exact HR263_1.out)) | (with_reducible refine Kd.C_alloc ?_ _) | (with_reducible refine Kd.C_drewN ?_ _) | (with_reducible refine Kd.C_drew ?_))); (case side2 => exact HC263_1.out); (case side3 => repeat (first | exact (Kd.R_reads' HO266.out).2.2 | (with_reducible refine Kd.C_alloc ?_ _) | (with_reducible refine Kd.C_drewN ?_ _) | (with_reducible refine Kd.C_drew ?_))); (case side4 => exact (Kd.R_reads' HO266.out).2.1); rintro e w' ⟨rfl, ⟨nd, rfl⟩⟩))
                                      go_ret
                                      exact ⟨by first | rfl | (simp [errW_none, errW_some] <;> rfl) | (simp [*, errW_none, errW_some] <;> rfl), by repeat (first | (with_reducible first | exact HB.out | apply below_alloc | apply pw_below_drewN | apply below_drew1) | exact HB.out)⟩
                                    · rw [if_neg c39] at H
                                      exact absurd H (by simp)
                                  · rw [if_neg c38] at H
                                    exact absurd H (by simp)
                                · replace c37 := Bool.eq_false_iff.mpr c37
                                  subst c37
                                  have H1 : (none) = some r := by rw [if_neg (show ¬ (false = true) by decide)] at H; exact H
                                  clear H
                                  have H := H1
                                  clear H1
                                  exact absurd H (by simp)
                              · rw [if_neg c35] at H
                                exact absurd H (by simp)
                            · rw [if_neg c34] at H
                              exact absurd H (by simp)
                          · rw [if_neg c33] at H
                            exact absurd H (by simp)
                        · rw [if_neg c32] at H
                          exact absurd H (by simp)
                      · rw [if_neg c31] at H
                        exact absurd H (by simp)
                    · rw [if_neg c30] at H
                      exact absurd H (by simp)
                  · rw [if_neg c29] at H
                    exact absurd H (by simp)
                · replace c28 := Bool.eq_false_iff.mpr c28
                  subst c28
                  have H1 : (none) = some r := by rw [if_neg (show ¬ (false = true) by decide)] at H; exact H
                  clear H
                  have H := H1
                  clear H1
                  exact absurd H (by simp)
              · rw [if_neg c23] at H
                exact absurd H (by simp)
            · rw [if_neg c21] at H
              exact absurd H (by simp)
          · rw [if_neg c18] at H
            exact absurd H (by simp)
        · rw [if_neg c14] at H
          exact absurd H (by simp)

end Go.Proofs.Ytpmikaoheaefiaa.X
