-- Laid by xprint.py, a program of this session over the kit's print; checked by Lean alone.
import Derived.Test.YtpmikaoheaefiaaXx0
import Derived.Test.YtpmikaoheaefiaaXx3
import Derived.Test.YtpmikaoheaefiaaXx12
import Derived.Test.YtpmikaoheaefiaaXx17
import Derived.Test.YtpmikaoheaefiaaXx23
import Derived.Test.YtpmikaoheaefiaaXx24
namespace Go.Proofs.Ytpmikaoheaefiaa.X
open Go.RowKit Go.Proofs.YtpmikaoheaefiaaW.PrintWords Go.Proofs.YtpmikaoheaefiaaW.PrintLast Go.Proofs.YtpmikaoheaefiaaW.PrintMore
attribute [local go_sem] max2_int min2_int max_two min_two max_three min_three max_four min_four   -- for this text's walks alone
set_option linter.unusedVariables false
set_option linter.unusedSimpArgs false

/-! ### incunablelaw03_PackFinds: function 10 -/
mutual
def incunablelaw03_PackFinds.l0 : Nat → Int → List (S33) → Int → Int → Option (Bool)
  | 0, _, _, _, _ => none
  | k + 1, x1, x5, x6, x7 => if x7 < (x5.length : Int) then (if 0 ≤ x7 then ((pack_Find.f k x5 ((rd_T33 x5 x7).f0)).bind fun bt553 => (if bt553.2 = true then ((incunableref00_EqBytes.f k bt553.1 ((rd_T33 x5 x7).f1)).bind fun t558 => (incunablelaw03_PackFinds.j1 k x1 x5 x6 x7 (!t558))) else (incunablelaw03_PackFinds.j1 k x1 x5 x6 x7 true))) else (none)) else ((pack_Find.f k x5 x1).bind fun bt548 => (some (bt548.2 == (decide (x6 ≥ 0)))))
def incunablelaw03_PackFinds.j1 : Nat → Int → List (S33) → Int → Int → Bool → Option (Bool)
  | 0, _, _, _, _, _ => none
  | k + 1, x1, x5, x6, x7, x45 => if x45 = true then (none) else (if 0 ≤ x7 then (if x7 < (x5.length : Int) then (if ((rd_T33 x5 x7).f0) = x1 then (incunablelaw03_PackFinds.l0 k x1 x5 x7 (wrap64 (x7 + 1))) else (incunablelaw03_PackFinds.l0 k x1 x5 x6 (wrap64 (x7 + 1)))) else (none)) else (none))
end
def incunablelaw03_PackFinds.f (k : Nat) (l0 : List (List Int)) (a1 : Int) : Option (Bool) := (incunablelaw03_works.f k).bind fun t543 => (if t543 = true then ((incunablelaw03_made.f k l0).bind fun t544 => ((incunableref00_Bring.f a1 260).bind fun t547 => (incunablelaw03_PackFinds.l0 k t547 t544 (-1) 0))) else (none))
theorem incunablelaw03_PackFinds.mono_l : ∀ k, (∀ y0 y1 y2 y3, LeO (incunablelaw03_PackFinds.l0 k y0 y1 y2 y3) (incunablelaw03_PackFinds.l0 (k + 1) y0 y1 y2 y3)) ∧ (∀ y0 y1 y2 y3 y4, LeO (incunablelaw03_PackFinds.j1 k y0 y1 y2 y3 y4) (incunablelaw03_PackFinds.j1 (k + 1) y0 y1 y2 y3 y4))
  | 0 => ⟨fun _ _ _ _ r h => by simp [incunablelaw03_PackFinds.l0] at h, fun _ _ _ _ _ r h => by simp [incunablelaw03_PackFinds.j1] at h⟩
  | k + 1 => by
    obtain ⟨ih0, ih1⟩ := incunablelaw03_PackFinds.mono_l k
    refine ⟨?_, ?_⟩
    · intro y0 y1 y2 y3
      unfold incunablelaw03_PackFinds.l0
      repeat' first
      | (with_reducible exact ih0 _ _ _ _)
      | (with_reducible exact ih1 _ _ _ _ _)
      | (with_reducible exact incunablelaw03_made.mono _ _)
      | (with_reducible exact incunablelaw03_works.mono _)
      | (with_reducible exact incunableref00_EqBytes.mono _ _ _)
      | (with_reducible exact pack_Find.mono _ _ _)
      | (with_reducible exact LeO.refl _)
      | (with_reducible exact LeO.none _)
      | (with_reducible refine LeO.ite ?_ ?_)
      | (with_reducible refine LeO.bind ?_ (fun _ => ?_))
      | exact ih0 _ _ _ _
      | exact ih1 _ _ _ _ _
      | exact incunablelaw03_made.mono _ _
      | exact incunablelaw03_works.mono _
      | exact incunableref00_EqBytes.mono _ _ _
      | exact pack_Find.mono _ _ _
      | exact LeO.none _
      | refine LeO.ite ?_ ?_
      | refine LeO.bind ?_ (fun _ => ?_)
    · intro y0 y1 y2 y3 y4
      unfold incunablelaw03_PackFinds.j1
      repeat' first
      | (with_reducible exact ih0 _ _ _ _)
      | (with_reducible exact ih1 _ _ _ _ _)
      | (with_reducible exact incunablelaw03_made.mono _ _)
      | (with_reducible exact incunablelaw03_works.mono _)
      | (with_reducible exact incunableref00_EqBytes.mono _ _ _)
      | (with_reducible exact pack_Find.mono _ _ _)
      | (with_reducible exact LeO.refl _)
      | (with_reducible exact LeO.none _)
      | (with_reducible refine LeO.ite ?_ ?_)
      | (with_reducible refine LeO.bind ?_ (fun _ => ?_))
      | exact ih0 _ _ _ _
      | exact ih1 _ _ _ _ _
      | exact incunablelaw03_made.mono _ _
      | exact incunablelaw03_works.mono _
      | exact incunableref00_EqBytes.mono _ _ _
      | exact pack_Find.mono _ _ _
      | exact LeO.none _
      | refine LeO.ite ?_ ?_
      | refine LeO.bind ?_ (fun _ => ?_)
theorem incunablelaw03_PackFinds.mono : ∀ a0 a1 k, LeO (incunablelaw03_PackFinds.f k a0 a1) (incunablelaw03_PackFinds.f (k + 1) a0 a1) := by
  intro a0 a1 k
  obtain ⟨ih0, ih1⟩ := incunablelaw03_PackFinds.mono_l k
  unfold incunablelaw03_PackFinds.f
  repeat' first
      | (with_reducible exact ih0 _ _ _ _)
      | (with_reducible exact ih1 _ _ _ _ _)
      | (with_reducible exact incunablelaw03_made.mono _ _)
      | (with_reducible exact incunablelaw03_works.mono _)
      | (with_reducible exact incunableref00_EqBytes.mono _ _ _)
      | (with_reducible exact pack_Find.mono _ _ _)
      | (with_reducible exact LeO.refl _)
      | (with_reducible exact LeO.none _)
      | (with_reducible refine LeO.ite ?_ ?_)
      | (with_reducible refine LeO.bind ?_ (fun _ => ?_))
      | exact ih0 _ _ _ _
      | exact ih1 _ _ _ _ _
      | exact incunablelaw03_made.mono _ _
      | exact incunablelaw03_works.mono _
      | exact incunableref00_EqBytes.mono _ _ _
      | exact pack_Find.mono _ _ _
      | exact LeO.none _
      | refine LeO.ite ?_ ?_
      | refine LeO.bind ?_ (fun _ => ?_)
set_option maxHeartbeats 8000000 in
set_option maxRecDepth 100000 in
theorem incunablelaw03_PackFinds.calls (k : Nat) (A0 : Option Addr) (c0 : Nat) (l0 : List (List Int)) (a1 : Int) (r : Bool) (w : World) (hr0 : Kd.C (Kd.slice 5 (Kd.int .u8)) w A0 l0.length l0) (hc0 : l0.length ≤ c0) (h : incunablelaw03_PackFinds.f k l0 a1 = some r) :
    Calls Try.prog 10 #[.slice A0 l0.length c0, .int .i64 a1] w fun e w' => e = .returned (.bool r) ∧ Below w.heap.size w w' := by
  have HR0 := Aside0.mk hr0
  have HC0 := Aside0.mk hc0
  clear hr0 hc0
  have HB := Aside0.mk (Below.refl w.heap.size w)
  have H : ((incunablelaw03_works.f k).bind fun t543 => (if t543 = true then ((incunablelaw03_made.f k l0).bind fun t544 => ((incunableref00_Bring.f a1 260).bind fun t547 => (incunablelaw03_PackFinds.l0 k t547 t544 (-1) 0))) else (none))) = some r := h
  clear h
  replace H := Option.bind_eq_some_iff.mp H
  obtain ⟨t543, A30, H⟩ := H
  replace H : (if t543 = true then ((incunablelaw03_made.f k l0).bind fun t544 => ((incunableref00_Bring.f a1 260).bind fun t547 => (incunablelaw03_PackFinds.l0 k t547 t544 (-1) 0))) else (none)) = some r := H
  have A3 := Aside0.mk A30
  clear A30
  by_cases c4 : t543 = true
  · subst c4
    have H1 : ((incunablelaw03_made.f k l0).bind fun t544 => ((incunableref00_Bring.f a1 260).bind fun t547 => (incunablelaw03_PackFinds.l0 k t547 t544 (-1) 0))) = some r := by rw [if_pos rfl] at H; exact H
    clear H
    have H := H1
    clear H1
    replace H := Option.bind_eq_some_iff.mp H
    obtain ⟨t544, A50, H⟩ := H
    replace H : ((incunableref00_Bring.f a1 260).bind fun t547 => (incunablelaw03_PackFinds.l0 k t547 t544 (-1) 0)) = some r := H
    have A5 := Aside0.mk A50
    clear A50
    replace H := Option.bind_eq_some_iff.mp H
    obtain ⟨t547, A60, H⟩ := H
    replace H : (incunablelaw03_PackFinds.l0 k t547 t544 (-1) 0) = some r := H
    have A6 := Aside0.mk A60
    clear A60
    have H' := Aside0.mk H
    clear H
    go_enter Try.func10, Try.ntmps10
    go_wp2_with (first | ((with_reducible refine gate_callee (f := 19) rfl ?_); refine goesL_ (some 12) rfl rfl Try.func19 (by kernel_rfl) rfl #[] rfl (by (try simp only [List.map_toArray, List.map_cons, List.map_nil]); first | done | rfl | (simp only [List.length_drop, List.length_take]; rfl)) ?_; (with_reducible refine (incunablelaw03_works.calls k  true _ A3.out).mono ?_); rintro e w7 ⟨rfl, hb⟩; refine ⟨_, rfl, ?_⟩; have n0_ := Aside0.mk (below_step (by repeat (first | (with_reducible first | exact HB.out | apply below_alloc | apply pw_below_drewN | apply below_drew1) | exact HB.out)) hb); clear HB; have HB := n0_; clear n0_; (try clear hb); (try clear hb2); (try clear hk); (try clear hi)) | ((with_reducible refine gate_callee (f := 20) rfl ?_); refine goesL_ (some 15) rfl rfl Try.func20 (by kernel_rfl) rfl #[.slice A0 l0.length c0] rfl (by (try simp only [List.map_toArray, List.map_cons, List.map_nil]); first | done | rfl | (simp only [List.length_drop, List.length_take]; rfl)) ?_; (with_reducible refine (incunablelaw03_made.calls k (fun k_ => k_ < w.heap.size) _ _ l0 t544 _ ?side1 A5.out).mono ?_); (case side1 => exact Kd.V_mk HC0.out (Kd.F_below (Kd.C_F (Kd.heap_slice 5 (Kd.heap_int .u8)) HR0.out) (by repeat (first | (with_reducible first | exact HB.out | apply below_alloc | apply pw_below_drewN | apply below_drew1) | exact HB.out)))); rintro e w8 ⟨v545, rfl, ho0, hb⟩; refine ⟨_, rfl, ?_⟩; have n0_ := Aside0.mk (Kd.N_lower (Kd.N_mono (ok' := fun k_ => True) ho0 (fun k_ hk_ => trivial)) (below_size (by repeat (first | (with_reducible first | exact HB.out | apply below_alloc | apply pw_below_drewN | apply below_drew1) | exact HB.out)))); have n1_ := Aside0.mk (below_step (by repeat (first | (with_reducible first | exact HB.out | apply below_alloc | apply pw_below_drewN | apply below_drew1) | exact HB.out)) hb); clear HB; have HO546 := n0_; have HB := n1_; clear n0_ n1_; (try clear hb); (try clear hb2); (try clear hk); (try clear hi); (try clear ho0)) | ((with_reducible refine gate_callee (f := 22) rfl ?_); refine goesL_ (some 17) rfl rfl Try.func22 (by kernel_rfl) rfl #[.int .i64 a1, .int .i64 260] rfl (by (try simp only [List.map_toArray, List.map_cons, List.map_nil]); first | done | rfl | (simp only [List.length_drop, List.length_take]; rfl)) ?_; (with_reducible refine (incunableref00_Bring.calls a1 260 t547 _ A6.out).mono ?_); rintro e w' ⟨rfl, ⟨nd, rfl⟩⟩; refine ⟨_, rfl, ?_⟩))
    go_loopg [6, 7] k (fun kq v6 v7 w' => ∃ (x6_1 : Int) (x7_1 : Int), v6 = .int .i64 x6_1 ∧ v7 = .int .i64 x7_1 ∧ Aside0 (incunablelaw03_PackFinds.l0 kq t547 t544 x6_1 x7_1 = some r) ∧ Aside0 (kq ≤ k) ∧ Aside0 (Kd.N k33 33 w' w.heap.size (fun _ => True) v545 t544) ∧ Aside0 (Below w.heap.size w w'))
    case atStart => exact ⟨((-1)), (0), (by first | rfl | (simp; done) | (simp [*]; done)), (by first | rfl | (simp; done) | (simp [*]; done)), H', ⟨Nat.le_refl _⟩, ⟨by (with_reducible repeat (first | apply Kd.N_alloc | apply Kd.N_drewN | apply Kd.N_drew)); exact HO546.out⟩, ⟨by repeat (first | (with_reducible first | exact HB.out | apply below_alloc | apply pw_below_drewN | apply below_drew1) | exact HB.out)⟩⟩
    case round =>
      clear H'
      try clear c1
      try clear c2
      try clear p2
      try clear c4
      obtain ⟨x6_1, x7_1, rfl, rfl, HA, HK1, HO_5, HB⟩ := hrel
      cases gk with
      | zero => exact absurd HA.out (by simp [incunablelaw03_PackFinds.l0])
      | succ k1 =>
        have H := HA.out
        clear HA
        simp only [incunablelaw03_PackFinds.l0] at H
        by_cases c9 : x7_1 < (t544.length : Int)
        · rw [if_pos c9] at H
          have c9b0 : decide (x7_1 < (t544.length : Int)) = true := decide_eq_true c9
          clear c9
          by_cases c10 : 0 ≤ x7_1
          · rw [if_pos c10] at H
            have c10b0 : decide (0 ≤ x7_1) = true := decide_eq_true c10
            clear c10
            replace H := Option.bind_eq_some_iff.mp H
            obtain ⟨⟨t553, t554⟩, A110, H⟩ := H
            replace H : (if t554 = true then ((incunableref00_EqBytes.f k1 t553 ((rd_T33 t544 x7_1).f1)).bind fun t558 => (incunablelaw03_PackFinds.j1 k1 t547 t544 x6_1 x7_1 (!t558))) else (incunablelaw03_PackFinds.j1 k1 t547 t544 x6_1 x7_1 true)) = some r := H
            have A11 := Aside0.mk A110
            clear A110
            have HC12 := Aside0.mk H
            clear H
            obtain ⟨Ao13, co13, eo13⟩ := Kd.N_slice HO_5.out
            subst eo13
            have p552 : 0 ≤ (x7_1 : Int) := of_decide_eq_true (by first | (with_reducible assumption) | assumption)
            have q552 : x7_1 < (t544.length : Int) := of_decide_eq_true (by first | (with_reducible assumption) | assumption)
            obtain ⟨ad552, A552_1, c552_1, e552, hx552_0, hx552_1, hl552_1, hi552_1⟩ := at_T33 (Kd.N_reads' HO_5.out).2.2 x7_1 p552 q552
            cases e552
            obtain ⟨ce552, hce552, hMe552, hcc552⟩ := Kd.N_get HO_5.out z33 x7_1 p552 (by first | exact q552 | exact of_decide_eq_true (by first | (with_reducible assumption) | assumption) | (have e_ := (Kd.N_reads' HO_5.out).1; omega))
            obtain ⟨ua552_1, uc552_1, rfl, ul552_1, ge552_1⟩ := k33_openF hMe552
            have hv552_1 := hcc552 1 _ rfl
            rw [add_field _ _ 1 (by omega)] at hv552_1
            replace hv552_1 := Option.some.inj (hv552_1.symm.trans hx552_1)
            injection hv552_1 with hva_ hvn_ hvc_
            rw [hva_] at ge552_1
            rw [hvc_] at ul552_1
            have HL552_1 := Aside0.mk (show Kd.V (Kd.int .u8) 5 _ w.heap.size _ _ ((rd_T33 t544 x7_1).f1) from Kd.V_mk ul552_1 ge552_1)
            clear hva_ hvn_ hvc_ ge552_1 ul552_1
            clear hcc552 hce552
            have HR552_1 := Aside0.mk hi552_1
            have HC552_1 := Aside0.mk hl552_1
            clear hi552_1 hl552_1
            replace p552 := eq_true p552
            replace q552 := eq_true q552
            go_upto_region 10 with (first | ((with_reducible refine gate_callee (f := 26) rfl ?_); refine goesL_ (some 31) rfl rfl Try.func26 (by kernel_rfl) rfl #[.slice (some ad552) t544.length co13, .int .i64 ((rd_T33 t544 x7_1).f0)] rfl (by (try simp only [List.map_toArray, List.map_cons, List.map_nil]); first | done | rfl | (simp only [List.length_drop, List.length_take]; rfl)) ?_; (with_reducible refine (pack_Find.calls k1 _ _ t544 ((rd_T33 t544 x7_1).f0) t553 t554 _ ?side1 ?side2 A11.out).mono ?_); (case side1 => repeat (first | exact (Kd.N_reads' HO_5.out).2.2 | (with_reducible refine Kd.C_alloc ?_ _) | (with_reducible refine Kd.C_drewN ?_ _) | (with_reducible refine Kd.C_drew ?_))); (case side2 => exact (Kd.N_reads' HO_5.out).2.1); rintro e w14 ⟨v555, rfl, ho0, hb⟩; refine ⟨_, rfl, ?_⟩; have n0_ := Aside0.mk (Kd.N_elder' (by (with_reducible repeat (first | apply Kd.N_alloc | apply Kd.N_drewN | apply Kd.N_drew)); exact HO_5.out) (Kd.R_base ho0) hb); have n1_ := Aside0.mk (Kd.V_elder' (by (with_reducible repeat (first | apply Kd.V_alloc | apply Kd.V_drewN | apply Kd.V_drew)); exact HL552_1.out) (Kd.R_base ho0) hb); have n2_ := Aside0.mk (Kd.R_lower ho0 (below_size (by repeat (first | (with_reducible first | exact HB.out | apply below_alloc | apply pw_below_drewN | apply below_drew1) | exact HB.out)))); have n3_ := Aside0.mk (Kd.C_belowB (by first | (with_reducible exact HR552_1.out) | (with_reducible exact Kd.C_drewN HR552_1.out _) | repeat (first | (with_reducible exact HR552_1.out) | (with_reducible refine Kd.C_alloc ?_ _) | (with_reducible refine Kd.C_drewN ?_ _) | (with_reducible refine Kd.C_drew ?_) | exact HR552_1.out)) hb rfl); have n4_ := Aside0.mk (below_step (by repeat (first | (with_reducible first | exact HB.out | apply below_alloc | apply pw_below_drewN | apply below_drew1) | exact HB.out)) hb); clear HO_5; clear HL552_1; clear HR552_1; clear HB; have HO_5 := n0_; have HL552_1 := n1_; have HO556 := n2_; have HR552_1 := n3_; have HB := n4_; clear n0_ n1_ n2_ n3_ n4_; (try clear hb); (try clear hb2); (try clear hk); (try clear hi); (try clear ho0)))
            (try simp only [Act.put, List.setIfInBounds_toArray, List.set_cons_zero, List.set_cons_succ])
            go_cut [45] (fun v45 wc => ∃ (kq : Nat) (x45_11 : Bool), v45 = .bool x45_11 ∧ Aside0 (incunablelaw03_PackFinds.j1 kq t547 t544 x6_1 x7_1 x45_11 = some r) ∧ Aside0 (kq ≤ k1) ∧ Aside0 (Kd.N k33 33 wc w.heap.size (fun _ => True) (.slice (some ad552) t544.length co13) t544) ∧ Aside0 (Kd.C (Kd.int .u8) wc A552_1 ((rd_T33 t544 x7_1).f1).length ((rd_T33 t544 x7_1).f1)) ∧ Aside0 (Below w.heap.size w wc))
            case first =>
              have H := HC12.out
              clear HC12
              by_cases c15 : t554 = true
              · subst c15
                have H1 : ((incunableref00_EqBytes.f k1 t553 ((rd_T33 t544 x7_1).f1)).bind fun t558 => (incunablelaw03_PackFinds.j1 k1 t547 t544 x6_1 x7_1 (!t558))) = some r := by rw [if_pos rfl] at H; exact H
                clear H
                have H := H1
                clear H1
                replace H := Option.bind_eq_some_iff.mp H
                obtain ⟨t558, A160, H⟩ := H
                replace H : (incunablelaw03_PackFinds.j1 k1 t547 t544 x6_1 x7_1 (!t558)) = some r := H
                have A16 := Aside0.mk A160
                clear A160
                have H' := Aside0.mk H
                clear H
                have p557 : 0 ≤ (x7_1 : Int) := of_decide_eq_true (by first | (with_reducible assumption) | assumption)
                have q557 : x7_1 < (t544.length : Int) := of_decide_eq_true (by first | (with_reducible assumption) | assumption)
                obtain ⟨ad557, A557_1, c557_1, e557, hx557_0, hx557_1, hl557_1, hi557_1⟩ := at_T33 (Kd.N_reads' HO_5.out).2.2 x7_1 p557 q557
                obtain rfl : ad552 = ad557 := (by injection e557)
                obtain ⟨ce557, hce557, hMe557, hcc557⟩ := Kd.N_get HO_5.out z33 x7_1 p557 (by first | exact q557 | exact of_decide_eq_true (by first | (with_reducible assumption) | assumption) | (have e_ := (Kd.N_reads' HO_5.out).1; omega))
                obtain ⟨ua557_1, uc557_1, rfl, ul557_1, ge557_1⟩ := k33_openF hMe557
                have hv557_1 := hcc557 1 _ rfl
                rw [add_field _ _ 1 (by omega)] at hv557_1
                replace hv557_1 := Option.some.inj (hv557_1.symm.trans hx557_1)
                injection hv557_1 with hva_ hvn_ hvc_
                rw [hva_] at ge557_1
                rw [hvc_] at ul557_1
                have HL557_1 := Aside0.mk (show Kd.V (Kd.int .u8) 5 _ w.heap.size _ _ ((rd_T33 t544 x7_1).f1) from Kd.V_mk ul557_1 ge557_1)
                clear hva_ hvn_ hvc_ ge557_1 ul557_1
                clear hcc557 hce557
                have HR557_1 := Aside0.mk hi557_1
                have HC557_1 := Aside0.mk hl557_1
                clear hi557_1 hl557_1
                replace p557 := eq_true p557
                replace q557 := eq_true q557
                obtain ⟨Ao17, co17, eo17⟩ := Kd.R_slice HO556.out
                subst eo17
                go_wp2_with (first | (go_at_call 18; (with_reducible refine (incunableref00_EqBytes.calls k1 _ _ t553 _ _ ((rd_T33 t544 x7_1).f1) t558 _ ?side1 ?side2 ?side3 ?side4 A16.out).mono ?_); (case side1 => repeat (first | exact (Kd.R_reads' HO556.out).2.2 | (with_reducible refine Kd.C_alloc ?_ _) | (with_reducible refine Kd.C_drewN ?_ _) | (with_reducible refine Kd.C_drew ?_))); (case side2 => exact (Kd.R_reads' HO556.out).2.1); (case side3 => repeat (first | exact (by first | (with_reducible exact HR557_1.out) | (with_reducible exact Kd.C_drewN HR557_1.out _) | repeat (first | (with_reducible exact HR557_1.out) | (with_reducible refine Kd.C_alloc ?_ _) | (with_reducible refine Kd.C_drewN ?_ _) | (with_reducible refine Kd.C_drew ?_) | exact HR557_1.out)) | (with_reducible refine Kd.C_alloc ?_ _) | (with_reducible refine Kd.C_drewN ?_ _) | (with_reducible refine Kd.C_drew ?_))); (case side4 => exact HC557_1.out); rintro e w' ⟨rfl, ⟨nd, rfl⟩⟩))
                go_meet
                case rel => exact ⟨_, (!t558), (by first | rfl | (simp; done) | (simp [*]; done)), H', ⟨by have := HK1.out; first | omega | exact Nat.le_refl _⟩, ⟨by (with_reducible repeat (first | apply Kd.N_alloc | apply Kd.N_drewN | apply Kd.N_drew)); exact Kd.N_mono HO_5.out (fun _ hk => trivial)⟩, ⟨by repeat (first | (with_reducible exact HR552_1.out) | (with_reducible refine Kd.C_alloc ?_ _) | (with_reducible refine Kd.C_drewN ?_ _) | (with_reducible refine Kd.C_drew ?_) | exact HR552_1.out)⟩, ⟨by repeat (first | (with_reducible first | exact HB.out | apply below_alloc | apply pw_below_drewN | apply below_drew1) | exact HB.out)⟩⟩
              · replace c15 := Bool.eq_false_iff.mpr c15
                subst c15
                have H1 : (incunablelaw03_PackFinds.j1 k1 t547 t544 x6_1 x7_1 true) = some r := by rw [if_neg (show ¬ (false = true) by decide)] at H; exact H
                clear H
                have H := H1
                clear H1
                have H' := Aside0.mk H
                clear H
                go_wp2
                go_meet
                case rel => exact ⟨_, (true), (by first | rfl | (simp; done) | (simp [*]; done)), H', ⟨by have := HK1.out; first | omega | exact Nat.le_refl _⟩, ⟨by (with_reducible repeat (first | apply Kd.N_alloc | apply Kd.N_drewN | apply Kd.N_drew)); exact Kd.N_mono HO_5.out (fun _ hk => trivial)⟩, ⟨by repeat (first | (with_reducible exact HR552_1.out) | (with_reducible refine Kd.C_alloc ?_ _) | (with_reducible refine Kd.C_drewN ?_ _) | (with_reducible refine Kd.C_drew ?_) | exact HR552_1.out)⟩, ⟨by repeat (first | (with_reducible first | exact HB.out | apply below_alloc | apply pw_below_drewN | apply below_drew1) | exact HB.out)⟩⟩
            case rest =>
              clear HC12
              try clear c1
              try clear c2
              try clear p2
              try clear c4
              try clear c5
              try clear p5
              try clear q5
              try clear hx5
              try clear c9
              try clear c9b0
              try clear c10
              try clear c10b0
              try clear c15
              try clear hx552_0
              try clear hx552_1
              try clear hx557_0
              try clear hx557_1
              try clear p2
              try clear p552
              try clear p557
              try clear q552
              try clear q557
              obtain ⟨kq, x45_11, rfl, HA, HJ11, HO_5, HR552_1, HB⟩ := hcut
              cases kq with
              | zero => exact absurd HA.out (by simp [incunablelaw03_PackFinds.j1])
              | succ kj11 =>
                have H := HA.out
                clear HA
                simp only [incunablelaw03_PackFinds.j1] at H
                by_cases c18 : x45_11 = true
                · subst c18
                  have H1 : (none) = some r := by rw [if_pos rfl] at H; exact H
                  clear H
                  have H := H1
                  clear H1
                  exact absurd H (by simp)
                · replace c18 := Bool.eq_false_iff.mpr c18
                  subst c18
                  have H1 : (if 0 ≤ x7_1 then (if x7_1 < (t544.length : Int) then (if ((rd_T33 t544 x7_1).f0) = t547 then (incunablelaw03_PackFinds.l0 kj11 t547 t544 x7_1 (wrap64 (x7_1 + 1))) else (incunablelaw03_PackFinds.l0 kj11 t547 t544 x6_1 (wrap64 (x7_1 + 1)))) else (none)) else (none)) = some r := by rw [if_neg (show ¬ (false = true) by decide)] at H; exact H
                  clear H
                  have H := H1
                  clear H1
                  by_cases c19 : 0 ≤ x7_1
                  · rw [if_pos c19] at H
                    have c19b0 : decide (0 ≤ x7_1) = true := decide_eq_true c19
                    clear c19
                    by_cases c20 : x7_1 < (t544.length : Int)
                    · rw [if_pos c20] at H
                      have c20b0 : decide (x7_1 < (t544.length : Int)) = true := decide_eq_true c20
                      clear c20
                      by_cases c21 : ((rd_T33 t544 x7_1).f0) = t547
                      · rw [if_pos c21] at H
                        have c21b0 : (((rd_T33 t544 x7_1).f0) == t547) = true := beq_iff_eq.mpr c21
                        have c21b1 : (((rd_T33 t544 x7_1).f0) != t547) = false := bne_eq_false_iff_eq.mpr c21
                        clear c21
                        have H' := Aside0.mk H
                        clear H
                        have p559 : 0 ≤ (x7_1 : Int) := of_decide_eq_true (by first | (with_reducible assumption) | assumption)
                        have q559 : x7_1 < (t544.length : Int) := of_decide_eq_true (by first | (with_reducible assumption) | assumption)
                        obtain ⟨ad559, A559_1, c559_1, e559, hx559_0, hx559_1, hl559_1, hi559_1⟩ := at_T33 (Kd.N_reads' HO_5.out).2.2 x7_1 p559 q559
                        obtain rfl : ad552 = ad559 := (by injection e559)
                        obtain ⟨ce559, hce559, hMe559, hcc559⟩ := Kd.N_get HO_5.out z33 x7_1 p559 (by first | exact q559 | exact of_decide_eq_true (by first | (with_reducible assumption) | assumption) | (have e_ := (Kd.N_reads' HO_5.out).1; omega))
                        obtain ⟨ua559_1, uc559_1, rfl, ul559_1, ge559_1⟩ := k33_openF hMe559
                        have hv559_1 := hcc559 1 _ rfl
                        rw [add_field _ _ 1 (by omega)] at hv559_1
                        replace hv559_1 := Option.some.inj (hv559_1.symm.trans hx559_1)
                        injection hv559_1 with hva_ hvn_ hvc_
                        rw [hva_] at ge559_1
                        rw [hvc_] at ul559_1
                        have HL559_1 := Aside0.mk (show Kd.V (Kd.int .u8) 5 _ w.heap.size _ _ ((rd_T33 t544 x7_1).f1) from Kd.V_mk ul559_1 ge559_1)
                        clear hva_ hvn_ hvc_ ge559_1 ul559_1
                        clear hcc559 hce559
                        have HR559_1 := Aside0.mk hi559_1
                        have HC559_1 := Aside0.mk hl559_1
                        clear hi559_1 hl559_1
                        replace p559 := eq_true p559
                        replace q559 := eq_true q559
                        go_wp2
                        go_roundg kj11
                        case measure => have := HK1.out; have := HJ11.out; omega
                        case rel => exact ⟨(x7_1), (wrap64 (x7_1 + 1)), (by first | rfl | (simp; done) | (simp [*]; done)), (by first | rfl | (simp; done) | (simp [*]; done)), H', ⟨by have := HK1.out; have := HJ11.out; omega⟩, ⟨by (with_reducible repeat (first | apply Kd.N_alloc | apply Kd.N_drewN | apply Kd.N_drew)); exact HO_5.out⟩, ⟨by repeat (first | (with_reducible first | exact HB.out | apply below_alloc | apply pw_below_drewN | apply below_drew1) | exact HB.out)⟩⟩
                      · rw [if_neg c21] at H
                        have c21b0 : (((rd_T33 t544 x7_1).f0) == t547) = false := beq_eq_false_iff_ne.mpr c21
                        have c21b1 : (((rd_T33 t544 x7_1).f0) != t547) = true := bne_iff_ne.mpr c21
                        have H' := Aside0.mk H
                        clear H
                        have p559 : 0 ≤ (x7_1 : Int) := of_decide_eq_true (by first | (with_reducible assumption) | assumption)
                        have q559 : x7_1 < (t544.length : Int) := of_decide_eq_true (by first | (with_reducible assumption) | assumption)
                        obtain ⟨ad559, A559_1, c559_1, e559, hx559_0, hx559_1, hl559_1, hi559_1⟩ := at_T33 (Kd.N_reads' HO_5.out).2.2 x7_1 p559 q559
                        obtain rfl : ad552 = ad559 := (by injection e559)
                        obtain ⟨ce559, hce559, hMe559, hcc559⟩ := Kd.N_get HO_5.out z33 x7_1 p559 (by first | exact q559 | exact of_decide_eq_true (by first | (with_reducible assumption) | assumption) | (have e_ := (Kd.N_reads' HO_5.out).1; omega))
                        obtain ⟨ua559_1, uc559_1, rfl, ul559_1, ge559_1⟩ := k33_openF hMe559
                        have hv559_1 := hcc559 1 _ rfl
                        rw [add_field _ _ 1 (by omega)] at hv559_1
                        replace hv559_1 := Option.some.inj (hv559_1.symm.trans hx559_1)
                        injection hv559_1 with hva_ hvn_ hvc_
                        rw [hva_] at ge559_1
                        rw [hvc_] at ul559_1
                        have HL559_1 := Aside0.mk (show Kd.V (Kd.int .u8) 5 _ w.heap.size _ _ ((rd_T33 t544 x7_1).f1) from Kd.V_mk ul559_1 ge559_1)
                        clear hva_ hvn_ hvc_ ge559_1 ul559_1
                        clear hcc559 hce559
                        have HR559_1 := Aside0.mk hi559_1
                        have HC559_1 := Aside0.mk hl559_1
                        clear hi559_1 hl559_1
                        replace p559 := eq_true p559
                        replace q559 := eq_true q559
                        go_wp2
                        go_roundg kj11
                        case measure => have := HK1.out; have := HJ11.out; omega
                        case rel => exact ⟨(x6_1), (wrap64 (x7_1 + 1)), (by first | rfl | (simp; done) | (simp [*]; done)), (by first | rfl | (simp; done) | (simp [*]; done)), H', ⟨by have := HK1.out; have := HJ11.out; omega⟩, ⟨by (with_reducible repeat (first | apply Kd.N_alloc | apply Kd.N_drewN | apply Kd.N_drew)); exact HO_5.out⟩, ⟨by repeat (first | (with_reducible first | exact HB.out | apply below_alloc | apply pw_below_drewN | apply below_drew1) | exact HB.out)⟩⟩
                    · rw [if_neg c20] at H
                      exact absurd H (by simp)
                  · rw [if_neg c19] at H
                    exact absurd H (by simp)
          · rw [if_neg c10] at H
            exact absurd H (by simp)
        · rw [if_neg c9] at H
          have c9b0 : decide (x7_1 < (t544.length : Int)) = false := decide_eq_false c9
          clear c9
          replace H := Option.bind_eq_some_iff.mp H
          obtain ⟨⟨t548, t549⟩, A220, H⟩ := H
          replace H : (some (t549 == (decide (x6_1 ≥ 0)))) = some r := H
          have A22 := Aside0.mk A220
          clear A220
          obtain rfl := Option.some.inj H
          obtain ⟨Ao23, co23, eo23⟩ := Kd.N_slice HO_5.out
          subst eo23
          go_wp2_with (first | ((with_reducible refine gate_callee (f := 26) rfl ?_); refine goesL_ (some 57) rfl rfl Try.func26 (by kernel_rfl) rfl #[.slice Ao23 t544.length co23, .int .i64 t547] rfl (by (try simp only [List.map_toArray, List.map_cons, List.map_nil]); first | done | rfl | (simp only [List.length_drop, List.length_take]; rfl)) ?_; (with_reducible refine (pack_Find.calls k1 _ _ t544 t547 t548 t549 _ ?side1 ?side2 A22.out).mono ?_); (case side1 => repeat (first | exact (Kd.N_reads' HO_5.out).2.2 | (with_reducible refine Kd.C_alloc ?_ _) | (with_reducible refine Kd.C_drewN ?_ _) | (with_reducible refine Kd.C_drew ?_))); (case side2 => exact (Kd.N_reads' HO_5.out).2.1); rintro e w24 ⟨v550, rfl, ho0, hb⟩; refine ⟨_, rfl, ?_⟩; have n0_ := Aside0.mk (Kd.N_elder' (by (with_reducible repeat (first | apply Kd.N_alloc | apply Kd.N_drewN | apply Kd.N_drew)); exact HO_5.out) (Kd.R_base ho0) hb); have n1_ := Aside0.mk (Kd.R_lower ho0 (below_size (by repeat (first | (with_reducible first | exact HB.out | apply below_alloc | apply pw_below_drewN | apply below_drew1) | exact HB.out)))); have n2_ := Aside0.mk (below_step (by repeat (first | (with_reducible first | exact HB.out | apply below_alloc | apply pw_below_drewN | apply below_drew1) | exact HB.out)) hb); clear HO_5; clear HB; have HO_5 := n0_; have HO551 := n1_; have HB := n2_; clear n0_ n1_ n2_; (try clear hb); (try clear hb2); (try clear hk); (try clear hi); (try clear ho0)))
          go_ret
          exact ⟨by first | rfl | (simp [errW_none, errW_some] <;> rfl) | (simp [*, errW_none, errW_some] <;> rfl), by repeat (first | (with_reducible first | exact HB.out | apply below_alloc | apply pw_below_drewN | apply below_drew1) | exact HB.out)⟩
  · replace c4 := Bool.eq_false_iff.mpr c4
    subst c4
    have H1 : (none) = some r := by rw [if_neg (show ¬ (false = true) by decide)] at H; exact H
    clear H
    have H := H1
    clear H1
    exact absurd H (by simp)

end Go.Proofs.Ytpmikaoheaefiaa.X
