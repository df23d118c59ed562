-- Laid by xprint.py, a program of this session over the kit's print; checked by Lean alone.
import Derived.Test.YtpmikaoheaefiaaXx0
import Derived.Test.YtpmikaoheaefiaaXx2
import Derived.Test.YtpmikaoheaefiaaXx3
import Derived.Test.YtpmikaoheaefiaaXx5
import Derived.Test.YtpmikaoheaefiaaXx6
import Derived.Test.YtpmikaoheaefiaaXx9
import Derived.Test.YtpmikaoheaefiaaXx10
import Derived.Test.YtpmikaoheaefiaaXx14
namespace Go.Proofs.Ytpmikaoheaefiaa.X
open Go.RowKit Go.Proofs.YtpmikaoheaefiaaW.PrintWords Go.Proofs.YtpmikaoheaefiaaW.PrintLast Go.Proofs.YtpmikaoheaefiaaW.PrintMore
attribute [local go_sem] max2_int min2_int max_two min_two max_three min_three max_four min_four   -- for this text's walks alone
set_option linter.unusedVariables false
set_option linter.unusedSimpArgs false

/-! ### incunablelaw03_PackReads: function 3 -/
theorem incunablelaw03_spoil.ends_ (d : Nat) : ∀ (i : Nat) (l : List Int), i + d = l.length → l.length ≤ 9223372036854775807 → ∃ r, incunablelaw03_spoil.l0 (d + 1) l (i : Int) = some r := by
  induction d with
  | zero =>
    intro i l hi hn
    exact ⟨l, by simp only [incunablelaw03_spoil.l0]; rw [if_neg (by omega)]⟩
  | succ d ih =>
    intro i l hi hn
    obtain ⟨r, hr⟩ := ih (i + 1) (l.set i ((rd l (i : Int) + 1) % 256)) (by rw [List.length_set]; omega) (by rw [List.length_set]; exact hn)
    refine ⟨r, ?_⟩
    rw [incunablelaw03_spoil.l0, if_pos (by omega), if_pos (by omega), Int.toNat_natCast, show wrap64 ((i : Int) + 1) = ((i + 1 : Nat) : Int) by unfold wrap64; omega]
    exact hr
theorem incunablelaw03_spoil.ends (l : List Int) (hn : l.length ≤ 9223372036854775807) : ∃ k r, incunablelaw03_spoil.f k l = some r := by
  obtain ⟨r, hr⟩ := incunablelaw03_spoil.ends_ l.length 0 l (by omega) hn
  exact ⟨l.length + 1, r, hr⟩
mutual
def incunablelaw03_PackReads.j0 : Nat → List Int → List Int → List (S33) → Bool → Option (Bool)
  | 0, _, _, _, _ => none
  | k + 1, x0, x3, x9, x62 => if x62 = true then (none) else (incunablelaw03_PackReads.l0 k x0 x3 x9 0)
def incunablelaw03_PackReads.l0 : Nat → List Int → List Int → List (S33) → Int → Option (Bool)
  | 0, _, _, _, _ => none
  | k + 1, x0, x3, x9, x14 => if x14 < (x9.length : Int) then (if 0 ≤ x14 then (incunablelaw03_PackReads.l0 k x0 x3 x9 (wrap64 (x14 + 1))) else (none)) else ((incunableref00_EqBytes.f k x3 x0).bind fun t449 => (if t449 = true then ((incunablelaw03_works.f k).bind fun t450 => (some t450)) else (none)))
end
def incunablelaw03_PackReads.f (k : Nat) (l0 : List Int) : Option (Bool) := (incunableref00_CopyBytes.f l0).bind fun t430 => ((pack_Size.f k t430).bind fun bt433 => ((incunableref03_Size.f k l0).bind fun bt435 => ((pack_Unpack.f k t430).bind fun bt437 => ((incunableref03_Unpack.f k l0).bind fun bt442 => (if bt433.1 = bt435.1 then (if bt433.2 = bt435.2 then (if bt437.1 = bt442.1 then ((incunableref03_Same.f k bt437.2.1 bt442.2.1).bind fun t447 => (if t447 = true then (incunablelaw03_PackReads.j0 k l0 t430 bt437.2.1 (bt437.2.2 != bt442.2.2)) else (incunablelaw03_PackReads.j0 k l0 t430 bt437.2.1 true))) else (incunablelaw03_PackReads.j0 k l0 t430 bt437.2.1 true)) else (incunablelaw03_PackReads.j0 k l0 t430 bt437.2.1 true)) else (incunablelaw03_PackReads.j0 k l0 t430 bt437.2.1 true))))))
theorem incunablelaw03_PackReads.mono_l : ∀ k, (∀ y0 y1 y2 y3, LeO (incunablelaw03_PackReads.j0 k y0 y1 y2 y3) (incunablelaw03_PackReads.j0 (k + 1) y0 y1 y2 y3)) ∧ (∀ y0 y1 y2 y3, LeO (incunablelaw03_PackReads.l0 k y0 y1 y2 y3) (incunablelaw03_PackReads.l0 (k + 1) y0 y1 y2 y3))
  | 0 => ⟨fun _ _ _ _ r h => by simp [incunablelaw03_PackReads.j0] at h, fun _ _ _ _ r h => by simp [incunablelaw03_PackReads.l0] at h⟩
  | k + 1 => by
    obtain ⟨ih0, ih1⟩ := incunablelaw03_PackReads.mono_l k
    refine ⟨?_, ?_⟩
    · intro y0 y1 y2 y3
      unfold incunablelaw03_PackReads.j0
      repeat' first
      | (with_reducible exact ih0 _ _ _ _)
      | (with_reducible exact ih1 _ _ _ _)
      | (with_reducible exact incunablelaw03_works.mono _)
      | (with_reducible exact incunableref00_EqBytes.mono _ _ _)
      | (with_reducible exact incunableref03_Same.mono _ _ _)
      | (with_reducible exact incunableref03_Size.mono _ _)
      | (with_reducible exact incunableref03_Unpack.mono _ _)
      | (with_reducible exact pack_Size.mono _ _)
      | (with_reducible exact pack_Unpack.mono _ _)
      | (with_reducible exact LeO.refl _)
      | (with_reducible exact LeO.none _)
      | (with_reducible refine LeO.ite ?_ ?_)
      | (with_reducible refine LeO.bind ?_ (fun _ => ?_))
      | exact ih0 _ _ _ _
      | exact ih1 _ _ _ _
      | exact incunablelaw03_works.mono _
      | exact incunableref00_EqBytes.mono _ _ _
      | exact incunableref03_Same.mono _ _ _
      | exact incunableref03_Size.mono _ _
      | exact incunableref03_Unpack.mono _ _
      | exact pack_Size.mono _ _
      | exact pack_Unpack.mono _ _
      | exact LeO.none _
      | refine LeO.ite ?_ ?_
      | refine LeO.bind ?_ (fun _ => ?_)
    · intro y0 y1 y2 y3
      unfold incunablelaw03_PackReads.l0
      repeat' first
      | (with_reducible exact ih0 _ _ _ _)
      | (with_reducible exact ih1 _ _ _ _)
      | (with_reducible exact incunablelaw03_works.mono _)
      | (with_reducible exact incunableref00_EqBytes.mono _ _ _)
      | (with_reducible exact incunableref03_Same.mono _ _ _)
      | (with_reducible exact incunableref03_Size.mono _ _)
      | (with_reducible exact incunableref03_Unpack.mono _ _)
      | (with_reducible exact pack_Size.mono _ _)
      | (with_reducible exact pack_Unpack.mono _ _)
      | (with_reducible exact LeO.refl _)
      | (with_reducible exact LeO.none _)
      | (with_reducible refine LeO.ite ?_ ?_)
      | (with_reducible refine LeO.bind ?_ (fun _ => ?_))
      | exact ih0 _ _ _ _
      | exact ih1 _ _ _ _
      | exact incunablelaw03_works.mono _
      | exact incunableref00_EqBytes.mono _ _ _
      | exact incunableref03_Same.mono _ _ _
      | exact incunableref03_Size.mono _ _
      | exact incunableref03_Unpack.mono _ _
      | exact pack_Size.mono _ _
      | exact pack_Unpack.mono _ _
      | exact LeO.none _
      | refine LeO.ite ?_ ?_
      | refine LeO.bind ?_ (fun _ => ?_)
theorem incunablelaw03_PackReads.mono : ∀ a0 k, LeO (incunablelaw03_PackReads.f k a0) (incunablelaw03_PackReads.f (k + 1) a0) := by
  intro a0 k
  obtain ⟨ih0, ih1⟩ := incunablelaw03_PackReads.mono_l k
  unfold incunablelaw03_PackReads.f
  repeat' first
      | (with_reducible exact ih0 _ _ _ _)
      | (with_reducible exact ih1 _ _ _ _)
      | (with_reducible exact incunablelaw03_works.mono _)
      | (with_reducible exact incunableref00_EqBytes.mono _ _ _)
      | (with_reducible exact incunableref03_Same.mono _ _ _)
      | (with_reducible exact incunableref03_Size.mono _ _)
      | (with_reducible exact incunableref03_Unpack.mono _ _)
      | (with_reducible exact pack_Size.mono _ _)
      | (with_reducible exact pack_Unpack.mono _ _)
      | (with_reducible exact LeO.refl _)
      | (with_reducible exact LeO.none _)
      | (with_reducible refine LeO.ite ?_ ?_)
      | (with_reducible refine LeO.bind ?_ (fun _ => ?_))
      | exact ih0 _ _ _ _
      | exact ih1 _ _ _ _
      | exact incunablelaw03_works.mono _
      | exact incunableref00_EqBytes.mono _ _ _
      | exact incunableref03_Same.mono _ _ _
      | exact incunableref03_Size.mono _ _
      | exact incunableref03_Unpack.mono _ _
      | exact pack_Size.mono _ _
      | exact pack_Unpack.mono _ _
      | exact LeO.none _
      | refine LeO.ite ?_ ?_
      | refine LeO.bind ?_ (fun _ => ?_)
set_option maxHeartbeats 8000000 in
set_option maxRecDepth 100000 in
theorem incunablelaw03_PackReads.calls (k : Nat) (A0 : Option Addr) (c0 : Nat) (l0 : List Int) (r : Bool) (w : World) (hr0 : Kd.C (Kd.int .u8) w A0 l0.length l0) (hc0 : l0.length ≤ c0) (h : incunablelaw03_PackReads.f k l0 = some r) :
    Calls Try.prog 3 #[.slice A0 l0.length c0] w fun e w' => e = .returned (.bool r) ∧ Below w.heap.size w w' := by
  have HR0 := Aside0.mk hr0
  have HC0 := Aside0.mk hc0
  clear hr0 hc0
  have HB := Aside0.mk (Below.refl w.heap.size w)
  have H : ((incunableref00_CopyBytes.f l0).bind fun t430 => ((pack_Size.f k t430).bind fun bt433 => ((incunableref03_Size.f k l0).bind fun bt435 => ((pack_Unpack.f k t430).bind fun bt437 => ((incunableref03_Unpack.f k l0).bind fun bt442 => (if bt433.1 = bt435.1 then (if bt433.2 = bt435.2 then (if bt437.1 = bt442.1 then ((incunableref03_Same.f k bt437.2.1 bt442.2.1).bind fun t447 => (if t447 = true then (incunablelaw03_PackReads.j0 k l0 t430 bt437.2.1 (bt437.2.2 != bt442.2.2)) else (incunablelaw03_PackReads.j0 k l0 t430 bt437.2.1 true))) else (incunablelaw03_PackReads.j0 k l0 t430 bt437.2.1 true)) else (incunablelaw03_PackReads.j0 k l0 t430 bt437.2.1 true)) else (incunablelaw03_PackReads.j0 k l0 t430 bt437.2.1 true))))))) = some r := h
  clear h
  replace H := Option.bind_eq_some_iff.mp H
  obtain ⟨t430, A20, H⟩ := H
  replace H : ((pack_Size.f k t430).bind fun bt433 => ((incunableref03_Size.f k l0).bind fun bt435 => ((pack_Unpack.f k t430).bind fun bt437 => ((incunableref03_Unpack.f k l0).bind fun bt442 => (if bt433.1 = bt435.1 then (if bt433.2 = bt435.2 then (if bt437.1 = bt442.1 then ((incunableref03_Same.f k bt437.2.1 bt442.2.1).bind fun t447 => (if t447 = true then (incunablelaw03_PackReads.j0 k l0 t430 bt437.2.1 (bt437.2.2 != bt442.2.2)) else (incunablelaw03_PackReads.j0 k l0 t430 bt437.2.1 true))) else (incunablelaw03_PackReads.j0 k l0 t430 bt437.2.1 true)) else (incunablelaw03_PackReads.j0 k l0 t430 bt437.2.1 true)) else (incunablelaw03_PackReads.j0 k l0 t430 bt437.2.1 true)))))) = some r := H
  have A2 := Aside0.mk A20
  clear A20
  replace H := Option.bind_eq_some_iff.mp H
  obtain ⟨⟨t433, t434⟩, A30, H⟩ := H
  replace H : ((incunableref03_Size.f k l0).bind fun bt435 => ((pack_Unpack.f k t430).bind fun bt437 => ((incunableref03_Unpack.f k l0).bind fun bt442 => (if t433 = bt435.1 then (if t434 = bt435.2 then (if bt437.1 = bt442.1 then ((incunableref03_Same.f k bt437.2.1 bt442.2.1).bind fun t447 => (if t447 = true then (incunablelaw03_PackReads.j0 k l0 t430 bt437.2.1 (bt437.2.2 != bt442.2.2)) else (incunablelaw03_PackReads.j0 k l0 t430 bt437.2.1 true))) else (incunablelaw03_PackReads.j0 k l0 t430 bt437.2.1 true)) else (incunablelaw03_PackReads.j0 k l0 t430 bt437.2.1 true)) else (incunablelaw03_PackReads.j0 k l0 t430 bt437.2.1 true))))) = some r := H
  have A3 := Aside0.mk A30
  clear A30
  replace H := Option.bind_eq_some_iff.mp H
  obtain ⟨⟨t435, t436⟩, A40, H⟩ := H
  replace H : ((pack_Unpack.f k t430).bind fun bt437 => ((incunableref03_Unpack.f k l0).bind fun bt442 => (if t433 = t435 then (if t434 = t436 then (if bt437.1 = bt442.1 then ((incunableref03_Same.f k bt437.2.1 bt442.2.1).bind fun t447 => (if t447 = true then (incunablelaw03_PackReads.j0 k l0 t430 bt437.2.1 (bt437.2.2 != bt442.2.2)) else (incunablelaw03_PackReads.j0 k l0 t430 bt437.2.1 true))) else (incunablelaw03_PackReads.j0 k l0 t430 bt437.2.1 true)) else (incunablelaw03_PackReads.j0 k l0 t430 bt437.2.1 true)) else (incunablelaw03_PackReads.j0 k l0 t430 bt437.2.1 true)))) = some r := H
  have A4 := Aside0.mk A40
  clear A40
  replace H := Option.bind_eq_some_iff.mp H
  obtain ⟨⟨t437, t438, t439⟩, A50, H⟩ := H
  replace H : ((incunableref03_Unpack.f k l0).bind fun bt442 => (if t433 = t435 then (if t434 = t436 then (if t437 = bt442.1 then ((incunableref03_Same.f k t438 bt442.2.1).bind fun t447 => (if t447 = true then (incunablelaw03_PackReads.j0 k l0 t430 t438 (t439 != bt442.2.2)) else (incunablelaw03_PackReads.j0 k l0 t430 t438 true))) else (incunablelaw03_PackReads.j0 k l0 t430 t438 true)) else (incunablelaw03_PackReads.j0 k l0 t430 t438 true)) else (incunablelaw03_PackReads.j0 k l0 t430 t438 true))) = some r := H
  have A5 := Aside0.mk A50
  clear A50
  replace H := Option.bind_eq_some_iff.mp H
  obtain ⟨⟨t442, t443, t444⟩, A60, H⟩ := H
  replace H : (if t433 = t435 then (if t434 = t436 then (if t437 = t442 then ((incunableref03_Same.f k t438 t443).bind fun t447 => (if t447 = true then (incunablelaw03_PackReads.j0 k l0 t430 t438 (t439 != t444)) else (incunablelaw03_PackReads.j0 k l0 t430 t438 true))) else (incunablelaw03_PackReads.j0 k l0 t430 t438 true)) else (incunablelaw03_PackReads.j0 k l0 t430 t438 true)) else (incunablelaw03_PackReads.j0 k l0 t430 t438 true)) = some r := H
  have A6 := Aside0.mk A60
  clear A60
  have HC7 := Aside0.mk H
  clear H
  go_enter Try.func3, Try.ntmps3
  go_upto_region 6 with (first | ((with_reducible refine gate_callee (f := 11) rfl ?_); refine goesL_ (some 16) rfl rfl Try.func11 (by kernel_rfl) rfl #[.slice A0 l0.length c0] rfl (by (try simp only [List.map_toArray, List.map_cons, List.map_nil]); first | done | rfl | (simp only [List.length_drop, List.length_take]; rfl)) ?_; (with_reducible refine (incunableref00_CopyBytes.calls _ _ l0 t430 _ ?side1 ?side2 A2.out).mono ?_); (case side1 => repeat (first | exact HR0.out | (with_reducible refine Kd.C_alloc ?_ _) | (with_reducible refine Kd.C_drewN ?_ _) | (with_reducible refine Kd.C_drew ?_))); (case side2 => exact HC0.out); rintro e w8 ⟨v431, rfl, ho0, hb⟩; refine ⟨_, rfl, ?_⟩; have n0_ := Aside0.mk (Kd.R_lower ho0 (below_size (by repeat (first | (with_reducible first | exact HB.out | apply below_alloc | apply pw_below_drewN | apply below_drew1) | exact HB.out)))); have n1_ := Aside0.mk (below_step (by repeat (first | (with_reducible first | exact HB.out | apply below_alloc | apply pw_below_drewN | apply below_drew1) | exact HB.out)) hb); clear HB; have HO432 := n0_; have HB := n1_; clear n0_ n1_; (try clear hb); (try clear hb2); (try clear hk); (try clear hi); (try clear ho0); obtain ⟨Ao9, co9, eo9⟩ := Kd.R_slice HO432.out; subst eo9) | ((with_reducible refine gate_callee (f := 12) rfl ?_); refine goesL_ (some 19) rfl rfl Try.func12 (by kernel_rfl) rfl #[.slice Ao9 t430.length co9] rfl (by (try simp only [List.map_toArray, List.map_cons, List.map_nil]); first | done | rfl | (simp only [List.length_drop, List.length_take]; rfl)) ?_; (with_reducible refine (pack_Size.calls k _ _ t430 t433 t434 _ ?side1 ?side2 A3.out).mono ?_); (case side1 => repeat (first | exact (Kd.R_reads' HO432.out).2.2 | (with_reducible refine Kd.C_alloc ?_ _) | (with_reducible refine Kd.C_drewN ?_ _) | (with_reducible refine Kd.C_drew ?_))); (case side2 => exact (Kd.R_reads' HO432.out).2.1); rintro e w10 ⟨rfl, hb⟩; refine ⟨_, rfl, ?_⟩; have n0_ := Aside0.mk (Kd.R_below (by (with_reducible repeat (first | apply Kd.R_alloc | apply Kd.R_drewN | apply Kd.R_drew)); exact HO432.out) hb); have n1_ := Aside0.mk (below_step (by repeat (first | (with_reducible first | exact HB.out | apply below_alloc | apply pw_below_drewN | apply below_drew1) | exact HB.out)) hb); clear HO432; clear HB; have HO432 := n0_; have HB := n1_; clear n0_ n1_; (try clear hb); (try clear hb2); (try clear hk); (try clear hi)) | ((with_reducible refine gate_callee (f := 13) rfl ?_); refine goesL_ (some 24) rfl rfl Try.func13 (by kernel_rfl) rfl #[.slice A0 l0.length c0] rfl (by (try simp only [List.map_toArray, List.map_cons, List.map_nil]); first | done | rfl | (simp only [List.length_drop, List.length_take]; rfl)) ?_; (with_reducible refine (incunableref03_Size.calls k _ _ l0 t435 t436 _ ?side1 ?side2 A4.out).mono ?_); (case side1 => repeat (first | exact (Kd.C_below HR0.out HB.out) | exact HR0.out | (with_reducible refine Kd.C_alloc ?_ _) | (with_reducible refine Kd.C_drewN ?_ _) | (with_reducible refine Kd.C_drew ?_))); (case side2 => exact HC0.out); rintro e w' ⟨rfl, ⟨nd, rfl⟩⟩; refine ⟨_, rfl, ?_⟩) | ((with_reducible refine gate_callee (f := 14) rfl ?_); refine goesL_ (some 29) rfl rfl Try.func14 (by kernel_rfl) rfl #[.slice Ao9 t430.length co9] rfl (by (try simp only [List.map_toArray, List.map_cons, List.map_nil]); first | done | rfl | (simp only [List.length_drop, List.length_take]; rfl)) ?_; (with_reducible refine (pack_Unpack.calls k _ _ t430 t437 t438 t439 _ ?side1 ?side2 A5.out).mono ?_); (case side1 => repeat (first | exact (Kd.R_reads' HO432.out).2.2 | (with_reducible refine Kd.C_alloc ?_ _) | (with_reducible refine Kd.C_drewN ?_ _) | (with_reducible refine Kd.C_drew ?_))); (case side2 => exact (Kd.R_reads' HO432.out).2.1); rintro e w11 ⟨v440, rfl, ho0, hb⟩; refine ⟨_, rfl, ?_⟩; have n0_ := Aside0.mk (Kd.R_below (by (with_reducible repeat (first | apply Kd.R_alloc | apply Kd.R_drewN | apply Kd.R_drew)); exact HO432.out) hb); have n1_ := Aside0.mk (Kd.S_lower (Kd.S_new' ho0 (Kd.R_lt (by (with_reducible repeat (first | apply Kd.R_alloc | apply Kd.R_drewN | apply Kd.R_drew)); exact HO432.out))) (below_size (by repeat (first | (with_reducible first | exact HB.out | apply below_alloc | apply pw_below_drewN | apply below_drew1) | exact HB.out)))); have n2_ := Aside0.mk (below_step (by repeat (first | (with_reducible first | exact HB.out | apply below_alloc | apply pw_below_drewN | apply below_drew1) | exact HB.out)) hb); clear HO432; clear HB; have HO432 := n0_; have HO441 := n1_; have HB := n2_; clear n0_ n1_ n2_; (try clear hb); (try clear hb2); (try clear hk); (try clear hi); (try clear ho0)) | ((with_reducible refine gate_callee (f := 15) rfl ?_); refine goesL_ (some 35) rfl rfl Try.func15 (by kernel_rfl) rfl #[.slice A0 l0.length c0] rfl (by (try simp only [List.map_toArray, List.map_cons, List.map_nil]); first | done | rfl | (simp only [List.length_drop, List.length_take]; rfl)) ?_; (with_reducible refine (incunableref03_Unpack.calls k _ _ l0 t442 t443 t444 _ ?side1 ?side2 A6.out).mono ?_); (case side1 => repeat (first | exact (Kd.C_below HR0.out HB.out) | exact HR0.out | (with_reducible refine Kd.C_alloc ?_ _) | (with_reducible refine Kd.C_drewN ?_ _) | (with_reducible refine Kd.C_drew ?_))); (case side2 => exact HC0.out); rintro e w12 ⟨v445, rfl, ho0, hb⟩; refine ⟨_, rfl, ?_⟩; have n0_ := Aside0.mk (Kd.R_below (by (with_reducible repeat (first | apply Kd.R_alloc | apply Kd.R_drewN | apply Kd.R_drew)); exact HO432.out) hb); have n1_ := Aside0.mk (Kd.S_elder' (by (with_reducible repeat (first | apply Kd.S_alloc | apply Kd.S_drewN | apply Kd.S_drew)); exact HO441.out) (Kd.S_base ho0) hb); have n2_ := Aside0.mk (Kd.S_lower (Kd.S_new' (Kd.S_new' ho0 (Kd.R_lt (by (with_reducible repeat (first | apply Kd.R_alloc | apply Kd.R_drewN | apply Kd.R_drew)); exact HO432.out))) (Kd.S_lt (by (with_reducible repeat (first | apply Kd.S_alloc | apply Kd.S_drewN | apply Kd.S_drew)); exact HO441.out))) (below_size (by repeat (first | (with_reducible first | exact HB.out | apply below_alloc | apply pw_below_drewN | apply below_drew1) | exact HB.out)))); have n3_ := Aside0.mk (below_step (by repeat (first | (with_reducible first | exact HB.out | apply below_alloc | apply pw_below_drewN | apply below_drew1) | exact HB.out)) hb); clear HO432; clear HO441; clear HB; have HO432 := n0_; have HO441 := n1_; have HO446 := n2_; have HB := n3_; clear n0_ n1_ n2_ n3_; (try clear hb); (try clear hb2); (try clear hk); (try clear hi); (try clear ho0)))
  (try simp only [Act.put, List.setIfInBounds_toArray, List.set_cons_zero, List.set_cons_succ])
  go_cut [62] (fun v62 wc => ∃ (kq : Nat) (x62_6 : Bool), v62 = .bool x62_6 ∧ Aside0 (incunablelaw03_PackReads.j0 kq l0 t430 t438 x62_6 = some r) ∧ Aside0 (kq ≤ k) ∧ Aside0 (Kd.R (Kd.int .u8) 5 wc w.heap.size (fun _ => True) (.slice Ao9 t430.length co9) t430) ∧ Aside0 (Kd.S k33 33 wc w.heap.size (fun k_ => some k_ ≠ ((.slice Ao9 t430.length co9) : Value).ownBlock) v440 t438) ∧ Aside0 (Below w.heap.size w wc))
  case first =>
    have H := HC7.out
    clear HC7
    by_cases c13 : t433 = t435
    · rw [if_pos c13] at H
      have c13b0 : (t433 == t435) = true := beq_iff_eq.mpr c13
      have c13b1 : (t433 != t435) = false := bne_eq_false_iff_eq.mpr c13
      clear c13
      (first | rw [c13b0] | (simp only [i64_w, i32_w]; rw [c13b0]) | skip)
      by_cases c14 : t434 = t436
      · rw [if_pos c14] at H
        have c14b0 : (t434 == t436) = true := beq_iff_eq.mpr c14
        have c14b1 : (t434 != t436) = false := bne_eq_false_iff_eq.mpr c14
        clear c14
        by_cases c15 : t437 = t442
        · rw [if_pos c15] at H
          have c15b0 : (t437 == t442) = true := beq_iff_eq.mpr c15
          have c15b1 : (t437 != t442) = false := bne_eq_false_iff_eq.mpr c15
          clear c15
          replace H := Option.bind_eq_some_iff.mp H
          obtain ⟨t447, A160, H⟩ := H
          replace H : (if t447 = true then (incunablelaw03_PackReads.j0 k l0 t430 t438 (t439 != t444)) else (incunablelaw03_PackReads.j0 k l0 t430 t438 true)) = some r := H
          have A16 := Aside0.mk A160
          clear A160
          by_cases c17 : t447 = true
          · subst c17
            have H1 : (incunablelaw03_PackReads.j0 k l0 t430 t438 (t439 != t444)) = some r := by rw [if_pos rfl] at H; exact H
            clear H
            have H := H1
            clear H1
            have H' := Aside0.mk H
            clear H
            obtain ⟨Ao18, co18, eo18⟩ := Kd.S_slice HO441.out
            subst eo18
            obtain ⟨Ao19, co19, eo19⟩ := Kd.S_slice HO446.out
            subst eo19
            go_wp2_with (first | (go_at_call 16; (with_reducible refine (incunableref03_Same.calls k _ _ t438 _ _ t443 true _ ?side1 ?side2 ?side3 ?side4 A16.out).mono ?_); (case side1 => repeat (first | exact (Kd.S_reads' HO441.out).2.2 | (with_reducible refine Kd.C_alloc ?_ _) | (with_reducible refine Kd.C_drewN ?_ _) | (with_reducible refine Kd.C_drew ?_))); (case side2 => exact (Kd.S_reads' HO441.out).2.1); (case side3 => repeat (first | exact (Kd.S_reads' HO446.out).2.2 | (with_reducible refine Kd.C_alloc ?_ _) | (with_reducible refine Kd.C_drewN ?_ _) | (with_reducible refine Kd.C_drew ?_))); (case side4 => exact (Kd.S_reads' HO446.out).2.1); rintro e w' ⟨rfl, ⟨nd, rfl⟩⟩))
            go_meet
            case rel => exact ⟨_, ((t439 != t444)), (by first | rfl | (simp; done) | (simp [*]; done)), H', ⟨by first | omega | exact Nat.le_refl _⟩, ⟨by (with_reducible repeat (first | apply Kd.R_alloc | apply Kd.R_drewN | apply Kd.R_drew)); exact HO432.out⟩, ⟨by (with_reducible repeat (first | apply Kd.S_alloc | apply Kd.S_drewN | apply Kd.S_drew)); exact Kd.S_mono HO441.out (fun _ hk => hk.1.2)⟩, ⟨by repeat (first | (with_reducible first | exact HB.out | apply below_alloc | apply pw_below_drewN | apply below_drew1) | exact HB.out)⟩⟩
          · replace c17 := Bool.eq_false_iff.mpr c17
            subst c17
            have H1 : (incunablelaw03_PackReads.j0 k l0 t430 t438 true) = some r := by rw [if_neg (show ¬ (false = true) by decide)] at H; exact H
            clear H
            have H := H1
            clear H1
            have H' := Aside0.mk H
            clear H
            obtain ⟨Ao20, co20, eo20⟩ := Kd.S_slice HO441.out
            subst eo20
            obtain ⟨Ao21, co21, eo21⟩ := Kd.S_slice HO446.out
            subst eo21
            go_wp2_with (first | (go_at_call 16; (with_reducible refine (incunableref03_Same.calls k _ _ t438 _ _ t443 false _ ?side1 ?side2 ?side3 ?side4 A16.out).mono ?_); (case side1 => repeat (first | exact (Kd.S_reads' HO441.out).2.2 | (with_reducible refine Kd.C_alloc ?_ _) | (with_reducible refine Kd.C_drewN ?_ _) | (with_reducible refine Kd.C_drew ?_))); (case side2 => exact (Kd.S_reads' HO441.out).2.1); (case side3 => repeat (first | exact (Kd.S_reads' HO446.out).2.2 | (with_reducible refine Kd.C_alloc ?_ _) | (with_reducible refine Kd.C_drewN ?_ _) | (with_reducible refine Kd.C_drew ?_))); (case side4 => exact (Kd.S_reads' HO446.out).2.1); rintro e w' ⟨rfl, ⟨nd, rfl⟩⟩))
            go_meet
            case rel => exact ⟨_, (true), (by first | rfl | (simp; done) | (simp [*]; done)), H', ⟨by first | omega | exact Nat.le_refl _⟩, ⟨by (with_reducible repeat (first | apply Kd.R_alloc | apply Kd.R_drewN | apply Kd.R_drew)); exact HO432.out⟩, ⟨by (with_reducible repeat (first | apply Kd.S_alloc | apply Kd.S_drewN | apply Kd.S_drew)); exact Kd.S_mono HO441.out (fun _ hk => hk.1.2)⟩, ⟨by repeat (first | (with_reducible first | exact HB.out | apply below_alloc | apply pw_below_drewN | apply below_drew1) | exact HB.out)⟩⟩
        · rw [if_neg c15] at H
          have c15b0 : (t437 == t442) = false := beq_eq_false_iff_ne.mpr c15
          have c15b1 : (t437 != t442) = true := bne_iff_ne.mpr c15
          have H' := Aside0.mk H
          clear H
          go_wp2
          go_meet
          case rel => exact ⟨_, (true), (by first | rfl | (simp; done) | (simp [*]; done)), H', ⟨by first | omega | exact Nat.le_refl _⟩, ⟨by (with_reducible repeat (first | apply Kd.R_alloc | apply Kd.R_drewN | apply Kd.R_drew)); exact HO432.out⟩, ⟨by (with_reducible repeat (first | apply Kd.S_alloc | apply Kd.S_drewN | apply Kd.S_drew)); exact Kd.S_mono HO441.out (fun _ hk => hk.1.2)⟩, ⟨by repeat (first | (with_reducible first | exact HB.out | apply below_alloc | apply pw_below_drewN | apply below_drew1) | exact HB.out)⟩⟩
      · rw [if_neg c14] at H
        have c14b0 : (t434 == t436) = false := beq_eq_false_iff_ne.mpr c14
        have c14b1 : (t434 != t436) = true := bne_iff_ne.mpr c14
        have H' := Aside0.mk H
        clear H
        go_wp2
        go_meet
        case rel => exact ⟨_, (true), (by first | rfl | (simp; done) | (simp [*]; done)), H', ⟨by first | omega | exact Nat.le_refl _⟩, ⟨by (with_reducible repeat (first | apply Kd.R_alloc | apply Kd.R_drewN | apply Kd.R_drew)); exact HO432.out⟩, ⟨by (with_reducible repeat (first | apply Kd.S_alloc | apply Kd.S_drewN | apply Kd.S_drew)); exact Kd.S_mono HO441.out (fun _ hk => hk.1.2)⟩, ⟨by repeat (first | (with_reducible first | exact HB.out | apply below_alloc | apply pw_below_drewN | apply below_drew1) | exact HB.out)⟩⟩
    · rw [if_neg c13] at H
      have c13b0 : (t433 == t435) = false := beq_eq_false_iff_ne.mpr c13
      have c13b1 : (t433 != t435) = true := bne_iff_ne.mpr c13
      (first | rw [c13b0] | (simp only [i64_w, i32_w]; rw [c13b0]) | skip)
      have H' := Aside0.mk H
      clear H
      go_wp2
      go_meet
      case rel => exact ⟨_, (true), (by first | rfl | (simp; done) | (simp [*]; done)), H', ⟨by first | omega | exact Nat.le_refl _⟩, ⟨by (with_reducible repeat (first | apply Kd.R_alloc | apply Kd.R_drewN | apply Kd.R_drew)); exact HO432.out⟩, ⟨by (with_reducible repeat (first | apply Kd.S_alloc | apply Kd.S_drewN | apply Kd.S_drew)); exact Kd.S_mono HO441.out (fun _ hk => hk.1.2)⟩, ⟨by repeat (first | (with_reducible first | exact HB.out | apply below_alloc | apply pw_below_drewN | apply below_drew1) | exact HB.out)⟩⟩
  case rest =>
    clear HC7
    try clear c1
    try clear p2
    try clear c3
    try clear c11
    try clear c12
    try clear c13
    try clear c13b0
    try clear c13b1
    try clear c14
    try clear c14b0
    try clear c14b1
    try clear c15
    try clear c15b0
    try clear c15b1
    try clear c17
    obtain ⟨kq, x62_6, rfl, HA, HJ6, HO_3, HO_9, HB⟩ := hcut
    cases kq with
    | zero => exact absurd HA.out (by simp [incunablelaw03_PackReads.j0])
    | succ kj6 =>
      have H := HA.out
      clear HA
      simp only [incunablelaw03_PackReads.j0] at H
      by_cases c22 : x62_6 = true
      · subst c22
        have H1 : (none) = some r := by rw [if_pos rfl] at H; exact H
        clear H
        have H := H1
        clear H1
        exact absurd H (by simp)
      · replace c22 := Bool.eq_false_iff.mpr c22
        subst c22
        have H1 : (incunablelaw03_PackReads.l0 kj6 l0 t430 t438 0) = some r := by rw [if_neg (show ¬ (false = true) by decide)] at H; exact H
        clear H
        have H := H1
        clear H1
        have H' := Aside0.mk H
        clear H
        go_wp2
        go_loopg [14] kj6 (fun kq v14 w' => ∃ (x14_2 : Int) (xs_ : List S33), v14 = .int .i64 x14_2 ∧ Aside0 (incunablelaw03_PackReads.l0 kq l0 t430 t438 x14_2 = some r) ∧ Aside0 (kq ≤ kj6) ∧ Aside0 (Kd.R (Kd.int .u8) 5 w' w.heap.size (fun _ => True) (.slice Ao9 t430.length co9) t430) ∧ Aside0 (Kd.S k33 33 w' w.heap.size (fun k_ => some k_ ≠ ((.slice Ao9 t430.length co9) : Value).ownBlock) v440 xs_) ∧ Aside0 (xs_.length = t438.length) ∧ Aside0 (Below w.heap.size w w'))
        case atStart => exact ⟨(0), t438, (by first | rfl | (simp; done) | (simp [*]; done)), H', ⟨Nat.le_refl _⟩, ⟨by (with_reducible repeat (first | apply Kd.R_alloc | apply Kd.R_drewN | apply Kd.R_drew)); exact HO_3.out⟩, ⟨by (with_reducible repeat (first | apply Kd.S_alloc | apply Kd.S_drewN | apply Kd.S_drew)); exact HO_9.out⟩, ⟨rfl⟩, ⟨by repeat (first | (with_reducible first | exact HB.out | apply below_alloc | apply pw_below_drewN | apply below_drew1) | exact HB.out)⟩⟩
        case round =>
          clear H'
          try clear c1
          try clear c2
          try clear p2
          try clear c3
          try clear c11
          try clear c12
          try clear c13
          try clear c13b0
          try clear c13b1
          try clear c14
          try clear c14b0
          try clear c14b1
          try clear c15
          try clear c15b0
          try clear c15b1
          try clear c17
          try clear c22
          try clear p2
          obtain ⟨x14_2, xs_, rfl, HA, HK2, HO_3, HO_9, HLn, HB⟩ := hrel
          cases gk with
          | zero => exact absurd HA.out (by simp [incunablelaw03_PackReads.l0])
          | succ k2 =>
            have H := HA.out
            clear HA
            simp only [incunablelaw03_PackReads.l0] at H
            by_cases c23 : x14_2 < (t438.length : Int)
            · rw [if_pos c23] at H
              have c23b0 : decide (x14_2 < (xs_.length : Int)) = true := decide_eq_true (by rw [HLn.out]; exact c23)
              clear c23
              by_cases c24 : 0 ≤ x14_2
              · rw [if_pos c24] at H
                have c24b0 : decide (0 ≤ x14_2) = true := decide_eq_true c24
                clear c24
                have H' := Aside0.mk H
                clear H
                have q449 : x14_2 < (xs_.length : Int) := of_decide_eq_true (by first | (with_reducible assumption) | assumption)
                have p449 : 0 ≤ x14_2 := of_decide_eq_true (by first | (with_reducible assumption) | assumption)
                obtain ⟨go25, co25, eo25, gb25, gl25, gc25⟩ := Kd.S_form HO_9.out (by omega)
                clear gb25 gl25 gc25
                subst eo25
                obtain ⟨oki, ce448, hce448, hMe448, hcc448, hok448, hH448⟩ := Kd.S_lend HO_9.out z33 x14_2 p449 q449
                obtain ⟨ve448, rfl, ge448⟩ := k33_openM hMe448
                have hx448_0 := hcc448 0 _ rfl
                have hx448_1 := hcc448 1 _ rfl
                obtain ⟨Av, cv, ev⟩ := Kd.R_slice ge448
                subst ev
                (try simp only [show k33.sz = 2 from rfl, Nat.add_zero] at hx448_0 hx448_1)
                generalize xs_.getD x14_2.toNat z33 = sx at ge448 hx448_0 hx448_1 hH448
                obtain ⟨ks, rs, hsp⟩ := incunablelaw03_spoil.ends (sx.f1) (Kd.C_max (Kd.R_reads' ge448).2.2)
                have GE := Aside0.mk ge448
                have GH := Aside0.mk hH448
                have GK := Aside0.mk hok448
                have GS := Aside0.mk hsp
                clear ge448 hH448 hok448 hsp hcc448 hce448 hMe448
                have p448 := eq_true p449
                have q448 := eq_true q449
                clear p449 q449
                go_wp2_with (go_at_call 17; (with_reducible refine (incunablelaw03_spoil.calls ks oki _ (sx.f1) rs w _ HB.out ?s1 GS.out).mono ?_); (case s1 => exact GE.out); rintro e w37 ⟨rfl, hR, hb, hk⟩; have n0_ := Aside0.mk (Kd.H_back (x' := (⟨sx.f0, rs⟩ : S33)) (Kd.H_kept GH.out hk (fun k_ _ hn => hn)) (k33_mkM _ _ _ (⟨sx.f0, rs⟩ : S33) (Kd.R_reok rfl hR (fun k_ hk_ => GE.out.1 k_ hk_))) (fun _ h_ => h_)); have n1_ := Aside0.mk (Kd.R_mono (Kd.R_kept (Kd.R_tight rfl HO_3.out) hk (fun k_ hk_ ho_ => (GK.out k_ ho_).1 hk_)) (fun _ _ => trivial)); have n2_ := Aside0.mk hb; clear HO_9 HO_3 HB GH GE GK hR hb hk; have HO_9 := n0_; have HO_3 := n1_; have HB := n2_; clear n0_ n1_ n2_)
                go_roundg k2
                case measure => have := HJ6.out; have := HK2.out; omega
                case rel => exact ⟨(wrap64 (x14_2 + 1)), xs_.set x14_2.toNat (⟨sx.f0, rs⟩ : S33), (by first | rfl | (simp; done) | (simp [*]; done)), H', ⟨by have := HJ6.out; have := HK2.out; omega⟩, ⟨by (with_reducible repeat (first | apply Kd.R_alloc | apply Kd.R_drewN | apply Kd.R_drew)); exact HO_3.out⟩, ⟨by (with_reducible repeat (first | apply Kd.S_alloc | apply Kd.S_drewN | apply Kd.S_drew)); exact HO_9.out⟩, ⟨by rw [List.length_set]; exact HLn.out⟩, ⟨by repeat (first | (with_reducible first | exact HB.out | apply below_alloc | apply pw_below_drewN | apply below_drew1) | exact HB.out)⟩⟩
              · rw [if_neg c24] at H
                exact absurd H (by simp)
            · rw [if_neg c23] at H
              have c23b0 : decide (x14_2 < (xs_.length : Int)) = false := decide_eq_false (by rw [HLn.out]; exact c23)
              clear c23
              replace H := Option.bind_eq_some_iff.mp H
              obtain ⟨t449, A260, H⟩ := H
              replace H : (if t449 = true then ((incunablelaw03_works.f k2).bind fun t450 => (some t450)) else (none)) = some r := H
              have A26 := Aside0.mk A260
              clear A260
              by_cases c27 : t449 = true
              · subst c27
                have H1 : ((incunablelaw03_works.f k2).bind fun t450 => (some t450)) = some r := by rw [if_pos rfl] at H; exact H
                clear H
                have H := H1
                clear H1
                replace H := Option.bind_eq_some_iff.mp H
                obtain ⟨t450, A280, H⟩ := H
                replace H : (some t450) = some r := H
                have A28 := Aside0.mk A280
                clear A280
                obtain rfl := Option.some.inj H
                obtain ⟨Ao29, co29, eo29⟩ := Kd.S_slice HO_9.out
                subst eo29
                go_wp2_with (first | ((with_reducible refine gate_callee (f := 18) rfl ?_); refine goesL_ (some 77) rfl rfl Try.func18 (by kernel_rfl) rfl #[.slice Ao9 t430.length co9, .slice A0 l0.length c0] rfl (by (try simp only [List.map_toArray, List.map_cons, List.map_nil]); first | done | rfl | (simp only [List.length_drop, List.length_take]; rfl)) ?_; (with_reducible refine (incunableref00_EqBytes.calls k2 _ _ t430 _ _ l0 true _ ?side1 ?side2 ?side3 ?side4 A26.out).mono ?_); (case side1 => repeat (first | exact (Kd.R_reads' HO_3.out).2.2 | (with_reducible refine Kd.C_alloc ?_ _) | (with_reducible refine Kd.C_drewN ?_ _) | (with_reducible refine Kd.C_drew ?_))); (case side2 => exact (Kd.R_reads' HO_3.out).2.1); (case side3 => repeat (first | exact (Kd.C_below HR0.out HB.out) | exact HR0.out | (with_reducible refine Kd.C_alloc ?_ _) | (with_reducible refine Kd.C_drewN ?_ _) | (with_reducible refine Kd.C_drew ?_))); (case side4 => exact HC0.out); rintro e w' ⟨rfl, ⟨nd, rfl⟩⟩; refine ⟨_, rfl, ?_⟩) | (go_at_call 19; (with_reducible refine (incunablelaw03_works.calls k2  t450 _ A28.out).mono ?_); rintro e w30 ⟨rfl, hb⟩; have n0_ := Aside0.mk (Kd.R_below (by (with_reducible repeat (first | apply Kd.R_alloc | apply Kd.R_drewN | apply Kd.R_drew)); exact HO_3.out) hb); have n1_ := Aside0.mk (Kd.S_below (by (with_reducible repeat (first | apply Kd.S_alloc | apply Kd.S_drewN | apply Kd.S_drew)); exact HO_9.out) hb); have n2_ := Aside0.mk (below_step (by repeat (first | (with_reducible first | exact HB.out | apply below_alloc | apply pw_below_drewN | apply below_drew1) | exact HB.out)) hb); clear HO_3; clear HO_9; clear HB; have HO_3 := n0_; have HO_9 := n1_; have HB := n2_; clear n0_ n1_ n2_; (try clear hb); (try clear hb2); (try clear hk); (try clear hi)))
                go_ret
                exact ⟨by first | rfl | (simp [errW_none, errW_some] <;> rfl) | (simp [*, errW_none, errW_some] <;> rfl), by repeat (first | (with_reducible first | exact HB.out | apply below_alloc | apply pw_below_drewN | apply below_drew1) | exact HB.out)⟩
              · replace c27 := Bool.eq_false_iff.mpr c27
                subst c27
                have H1 : (none) = some r := by rw [if_neg (show ¬ (false = true) by decide)] at H; exact H
                clear H
                have H := H1
                clear H1
                exact absurd H (by simp)


end Go.Proofs.Ytpmikaoheaefiaa.X
