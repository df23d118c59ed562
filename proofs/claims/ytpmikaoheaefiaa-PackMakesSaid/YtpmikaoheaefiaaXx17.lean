-- Laid by xprint.py, a program of this session over the kit's print; checked by Lean alone.
import Derived.Test.YtpmikaoheaefiaaXx0
import Derived.Test.YtpmikaoheaefiaaXx1
import Derived.Test.YtpmikaoheaefiaaXx4
namespace Go.Proofs.Ytpmikaoheaefiaa.X
open Go.RowKit Go.Proofs.YtpmikaoheaefiaaW.PrintWords Go.Proofs.YtpmikaoheaefiaaW.PrintLast Go.Proofs.YtpmikaoheaefiaaW.PrintMore
attribute [local go_sem] max2_int min2_int max_two min_two max_three min_three max_four min_four   -- for this text's walks alone
set_option linter.unusedVariables false
set_option linter.unusedSimpArgs false

/-! ### api_Section: function 41 -/
set_option maxHeartbeats 8000000 in
set_option maxRecDepth 100000 in
theorem pack_Find_1.calls (a : Int) (A : Option Addr) (n c : Nat) (t : Int) (p : Addr) (w : World) (hp : w.cell? p = some (.int .i64 t)) :
    Calls Try.prog 42 #[.agg #[.int .i64 a, .slice A n c], .pointer (some p)] w fun e w' => e = .returned (.bool (decide (a = t))) ∧ Below w.heap.size w w' := by
  have hu33 := Try.underlying33
  have HB := Aside0.mk (Below.refl w.heap.size w)
  go_enter Try.func42, Try.ntmps42
  go_wp2_with (first | ((with_reducible refine gate_dst (N := 2) rfl ?_); refine box_event ?hg (N := 2) ?hd (cs := #[.int .i64 a, .slice A n c]) (t := 33) ?hr ?_; (case hd => rfl); (case hg => rfl); (case hr => first | (go_simp; done) | (go_simp; rfl)); intro gb hg w2 hbox hb; subst hg; have hcz_0 : w2.cell? ⟨w.heap.size, 0, none⟩ = some (.int .i64 a) := (blk_cell hbox 0).trans rfl; have hcz_p := (hb.cell (World.block_lt_of_cell? w _ hp)).trans hp; have HB2 := Aside0.mk hb))
  go_ret
  refine ⟨?_, HB2.out⟩
  by_cases h : a = t
  · simp [h]
  · simp [h]
def slices_IndexFunc_S.l0 : Nat → List S33 → Int → Int → Option Int
  | 0, _, _, _ => none
  | k + 1, x0, x1, x8 => if x8 < (x0.length : Int) then (if 0 ≤ x8 then (if (rd_T33 x0 x8).f0 = x1 then some x8 else slices_IndexFunc_S.l0 k x0 x1 (wrap64 (x8 + 1))) else none) else some (-1)
theorem slices_IndexFunc_S.mono_l : ∀ k, (∀ y0 y1 y2, LeO (slices_IndexFunc_S.l0 k y0 y1 y2) (slices_IndexFunc_S.l0 (k + 1) y0 y1 y2))
  | 0 => fun _ _ _ r h => by simp [slices_IndexFunc_S.l0] at h
  | k + 1 => by
    have ih0 := slices_IndexFunc_S.mono_l k
    · intro y0 y1 y2
      unfold slices_IndexFunc_S.l0
      repeat' first
      | (with_reducible exact ih0 _ _ _)
      | (with_reducible exact LeO.refl _)
      | (with_reducible exact LeO.none _)
      | (with_reducible refine LeO.ite ?_ ?_)
      | (with_reducible refine LeO.bind ?_ (fun _ => ?_))
set_option maxHeartbeats 8000000 in
set_option maxRecDepth 100000 in
theorem slices_IndexFunc_S.calls (k : Nat) (A0 : Option Addr) (c0 : Nat) (l0 : List S33) (t r : Int) (p : Addr) (w : World) (hr0 : Kd.C k33 w A0 l0.length l0) (hc0 : l0.length ≤ c0) (hp : w.cell? p = some (.int .i64 t)) (h : slices_IndexFunc_S.l0 k l0 t 0 = some r) :
    Calls Try.prog 41 #[.slice A0 l0.length c0, .func (.func 42) #[] #[.pointer (some p)]] w fun e w' => e = .returned (.int .i64 r) ∧ Below w.heap.size w w' := by
  have hu33 := Try.underlying33
  have HR1 := Aside0.mk hr0
  have HB := Aside0.mk (Below.refl w.heap.size w)
  clear hr0
  have H' := Aside0.mk h
  clear h
  go_enter Try.func41, Try.ntmps41
  go_wp2
  go_loopg [4, 8] k (fun kq v4 v8 w' => ∃ (x8_1 : Int), v4 = .int .i64 0 ∧ v8 = .int .i64 x8_1 ∧ Aside0 (slices_IndexFunc_S.l0 kq l0 t x8_1 = some r) ∧ Aside0 (kq ≤ k) ∧ Aside0 (Below w.heap.size w w'))
  case atStart => exact ⟨0, (by first | rfl | (simp; done) | (simp [*]; done)), (by first | rfl | (simp; done) | (simp [*]; done)), H', ⟨Nat.le_refl _⟩, ⟨by repeat (first | (with_reducible first | exact HB.out | apply below_alloc | apply pw_below_drewN | apply below_drew1) | exact HB.out)⟩⟩
  case round =>
    clear H'
    obtain ⟨x8_1, rfl, rfl, HA, HK1, HB⟩ := hrel
    cases gk with
    | zero => exact absurd HA.out (by simp [slices_IndexFunc_S.l0])
    | succ k1 =>
      have H := HA.out
      clear HA
      simp only [slices_IndexFunc_S.l0] at H
      by_cases c3 : x8_1 < (l0.length : Int)
      · rw [if_pos c3] at H
        have c3b0 : decide (x8_1 < (l0.length : Int)) = true := decide_eq_true c3
        by_cases c4 : 0 ≤ x8_1
        · rw [if_pos c4] at H
          obtain ⟨ad1, A1, c1, e1, hx1_0, hx1_1, hl1, hi1⟩ := at_T33 HR1.out x8_1 c4 c3
          cases e1
          replace hx1_0 := (HB.out.cell (World.block_lt_of_cell? w _ hx1_0)).trans hx1_0
          replace hx1_1 := (HB.out.cell (World.block_lt_of_cell? w _ hx1_1)).trans hx1_1
          have hpw := (HB.out.cell (World.block_lt_of_cell? w _ hp)).trans hp
          have p1 := eq_true c4
          have q1 := eq_true c3
          by_cases c5 : (rd_T33 l0 x8_1).f0 = t
          · rw [if_pos c5] at H
            obtain rfl := Option.some.inj H
            clear H
            have c5b : decide ((rd_T33 l0 x8_1).f0 = t) = true := decide_eq_true c5
            clear c5
            go_wp2_with (go_at_call 42; (with_reducible refine (pack_Find_1.calls _ _ _ _ t p _ hpw).mono ?_); rintro e w3 ⟨rfl, hb3⟩; rw [c5b]; have HB3 := Aside0.mk (below_step HB.out hb3))
            go_ret
            exact ⟨rfl, HB3.out⟩
          · rw [if_neg c5] at H
            have H' := Aside0.mk H
            clear H
            have c5b : decide ((rd_T33 l0 x8_1).f0 = t) = false := decide_eq_false c5
            clear c5
            go_wp2_with (go_at_call 42; (with_reducible refine (pack_Find_1.calls _ _ _ _ t p _ hpw).mono ?_); rintro e w3 ⟨rfl, hb3⟩; rw [c5b]; have HB3 := Aside0.mk (below_step HB.out hb3))
            go_roundg k1
            case measure => have := HK1.out; omega
            case rel => exact ⟨(wrap64 (x8_1 + 1)), (by first | rfl | (simp; done) | (simp [*]; done)), (by first | rfl | (simp; done) | (simp [*]; done)), H', ⟨by have := HK1.out; omega⟩, ⟨HB3.out⟩⟩
        · rw [if_neg c4] at H
          exact absurd H (by simp)
      · rw [if_neg c3] at H
        have c3b0 : decide (x8_1 < (l0.length : Int)) = false := decide_eq_false c3
        obtain rfl := Option.some.inj H
        go_wp2
        go_ret
        exact ⟨rfl, HB.out⟩

/-! ### pack_Find: function 26 -/
def pack_Find.f (k : Nat) (l0 : List S33) (a1 : Int) : Option (List Int × Bool) := (slices_IndexFunc_S.l0 k l0 a1 0).bind fun i => (if i < 0 then some (([] : List Int), false) else (if i < (l0.length : Int) then ((slices_Clone_byte_byte.f (rd_T33 l0 i).f1).bind fun t => some (t, true)) else none))
theorem pack_Find.mono : ∀ a0 a1 k, LeO (pack_Find.f k a0 a1) (pack_Find.f (k + 1) a0 a1) := by
  intro a0 a1 k
  unfold pack_Find.f
  exact LeO.bind (slices_IndexFunc_S.mono_l k _ _ _) (fun _ => LeO.refl _)
set_option maxHeartbeats 8000000 in
set_option maxRecDepth 100000 in
theorem pack_Find.calls (k : Nat) (A0 : Option Addr) (c0 : Nat) (l0 : List (S33)) (a1 : Int) (r1 : List Int) (r2 : Bool) (w : World) (hr0 : Kd.C k33 w A0 l0.length l0) (hc0 : l0.length ≤ c0) (h : pack_Find.f k l0 a1 = some (r1, r2)) :
    Calls Try.prog 26 #[.slice A0 l0.length c0, .int .i64 a1] w fun e w' => ∃ v0_ : Value, e = .returned (.tuple #[v0_, .bool r2]) ∧ Kd.R (Kd.int .u8) 5 w' w.heap.size (fun _ => True) v0_ r1 ∧ Below w.heap.size w w' := by
  have hu33 := Try.underlying33
  have hmf : ∀ (fn : Fn) (first cap : Array Value) (w : World), (Instr.makeFunc fn first cap).run Try.prog w = .ok (.func fn first cap) w := fun _ _ _ _ => rfl
  have HR1 := Aside0.mk hr0
  have HB := Aside0.mk (Below.refl w.heap.size w)
  clear hr0
  have H := h
  clear h
  unfold pack_Find.f at H
  obtain ⟨i1, A1, H⟩ := Option.bind_eq_some_iff.mp H
  have A2 := Aside0.mk A1
  clear A1
  by_cases c3 : i1 < 0
  · simp only [if_pos c3, Option.some.injEq, Prod.mk.injEq] at H
    obtain ⟨rfl, rfl⟩ := H
    have c3b := decide_eq_true c3
    go_enter Try.func26, Try.ntmps26
    go_wp2_with (first | ((with_reducible refine gate_dst (N := 3) rfl ?_); refine box_event ?hg (N := 3) ?hd (cs := #[.int .i64 a1]) (t := 3) ?hr ?_; (case hd => rfl); (case hg => rfl); (case hr => first | (go_simp; done) | (go_simp; rfl)); intro gb hg w2 hbox hb; subst hg; have HX := Aside0.mk ((blk_cell hbox 0).trans rfl : w2.cell? ⟨w.heap.size, 0, none⟩ = some (.int .i64 a1)); have HB2 := Aside0.mk hb) | (go_at_call 41; (with_reducible refine (slices_IndexFunc_S.calls k _ _ l0 a1 i1 _ _ (Kd.C_below HR1.out HB2.out) hc0 HX.out A2.out).mono ?_); rintro e w3 ⟨rfl, hb3⟩; have HB3 := Aside0.mk (below_step HB2.out hb3)))
    go_ret2
    exact ⟨_, rfl, Kd.R_nil _ _ _ _ _, HB3.out⟩
  · simp only [if_neg c3] at H
    have c3b := decide_eq_false c3
    by_cases c4 : i1 < (l0.length : Int)
    · simp only [if_pos c4] at H
      obtain ⟨t1, A5, H⟩ := Option.bind_eq_some_iff.mp H
      simp only [Option.some.injEq, Prod.mk.injEq] at H
      obtain ⟨rfl, rfl⟩ := H
      have A6 := Aside0.mk A5
      clear A5
      obtain ⟨ad1, A1, c1, e1, hx1_0, hx1_1, hl1, hi1⟩ := at_T33 HR1.out i1 (by omega) c4
      cases e1
      have HI := Aside0.mk hi1
      have HL := Aside0.mk hl1
      clear hi1 hl1
      have p1 := eq_true (show 0 ≤ i1 by omega)
      have q1 := eq_true c4
      go_enter Try.func26, Try.ntmps26
      go_wp2_with (first | ((with_reducible refine gate_dst (N := 3) rfl ?_); refine box_event ?hg (N := 3) ?hd (cs := #[.int .i64 a1]) (t := 3) ?hr ?_; (case hd => rfl); (case hg => rfl); (case hr => first | (go_simp; done) | (go_simp; rfl)); intro gb hg w2 hbox hb; subst hg; have HX := Aside0.mk ((blk_cell hbox 0).trans rfl : w2.cell? ⟨w.heap.size, 0, none⟩ = some (.int .i64 a1)); have HB2 := Aside0.mk hb) | (go_at_call 41; (with_reducible refine (slices_IndexFunc_S.calls k _ _ l0 a1 i1 _ _ (Kd.C_below HR1.out HB2.out) hc0 HX.out A2.out).mono ?_); rintro e w3 ⟨rfl, hb3⟩; have HB3 := Aside0.mk (below_step HB2.out hb3); have hy_1 := (HB3.out.cell (World.block_lt_of_cell? w _ hx1_1)).trans hx1_1) | (go_at_call 43; (with_reducible refine (slices_Clone_byte_byte.calls _ _ (rd_T33 l0 i1).f1 t1 _ (Kd.C_below HI.out HB3.out) HL.out A6.out).mono ?_); rintro e w4 ⟨v4, rfl, ho4, hb4⟩; have HO4 := Aside0.mk (Kd.R_lower ho4 (below_size HB3.out)); have HB4 := Aside0.mk (below_step HB3.out hb4)))
      go_ret2
      exact ⟨_, rfl, HO4.out, HB4.out⟩
    · simp only [if_neg c4] at H
      exact absurd H (by simp)


/-! ### incunableref03_Find: function 27 -/
def incunableref03_Find.l0 : Nat → List (S33) → Int → Int → Option (List Int × Bool)
  | 0, _, _, _ => none
  | k + 1, x0, x1, x6 => if x6 < (x0.length : Int) then (if 0 ≤ x6 then (if ((rd_T33 x0 x6).f0) = x1 then ((incunableref00_CopyBytes.f ((rd_T33 x0 x6).f1)).bind fun t336 => (some (t336, true))) else (incunableref03_Find.l0 k x0 x1 (wrap64 (x6 + 1)))) else (none)) else (some (([] : List Int), false))
def incunableref03_Find.f (k : Nat) (l0 : List (S33)) (a1 : Int) : Option (List Int × Bool) := incunableref03_Find.l0 k l0 a1 0
theorem incunableref03_Find.mono_l : ∀ k, (∀ y0 y1 y2, LeO (incunableref03_Find.l0 k y0 y1 y2) (incunableref03_Find.l0 (k + 1) y0 y1 y2))
  | 0 => fun _ _ _ r h => by simp [incunableref03_Find.l0] at h
  | k + 1 => by
    have ih0 := incunableref03_Find.mono_l k
    · intro y0 y1 y2
      unfold incunableref03_Find.l0
      repeat' first
      | (with_reducible exact ih0 _ _ _)
      | (with_reducible exact LeO.refl _)
      | (with_reducible exact LeO.none _)
      | (with_reducible refine LeO.ite ?_ ?_)
      | (with_reducible refine LeO.bind ?_ (fun _ => ?_))
      | exact ih0 _ _ _
      | exact LeO.none _
      | refine LeO.ite ?_ ?_
      | refine LeO.bind ?_ (fun _ => ?_)
theorem incunableref03_Find.mono : ∀ a0 a1 k, LeO (incunableref03_Find.f k a0 a1) (incunableref03_Find.f (k + 1) a0 a1) := by
  intro a0 a1 k
  have ih0 := incunableref03_Find.mono_l k
  unfold incunableref03_Find.f
  repeat' first
      | (with_reducible exact ih0 _ _ _)
      | (with_reducible exact LeO.refl _)
      | (with_reducible exact LeO.none _)
      | (with_reducible refine LeO.ite ?_ ?_)
      | (with_reducible refine LeO.bind ?_ (fun _ => ?_))
      | exact ih0 _ _ _
      | exact LeO.none _
      | refine LeO.ite ?_ ?_
      | refine LeO.bind ?_ (fun _ => ?_)
set_option maxHeartbeats 8000000 in
set_option maxRecDepth 100000 in
theorem incunableref03_Find.calls (k : Nat) (A0 : Option Addr) (c0 : Nat) (l0 : List (S33)) (a1 : Int) (r1 : List Int) (r2 : Bool) (w : World) (hr0 : Kd.C k33 w A0 l0.length l0) (hc0 : l0.length ≤ c0) (h : incunableref03_Find.f k l0 a1 = some (r1, r2)) :
    Calls Try.prog 27 #[.slice A0 l0.length c0, .int .i64 a1] w fun e w' => ∃ v0_ : Value, e = .returned (.tuple #[v0_, .bool r2]) ∧ Kd.R (Kd.int .u8) 5 w' w.heap.size (fun _ => True) v0_ r1 ∧ Below w.heap.size w w' := by
  have HR0 := Aside0.mk hr0
  have HC0 := Aside0.mk hc0
  clear hr0 hc0
  have HB := Aside0.mk (Below.refl w.heap.size w)
  have H : (incunableref03_Find.l0 k l0 a1 0) = some (r1, r2) := h
  clear h
  have H' := Aside0.mk H
  clear H
  go_enter Try.func27, Try.ntmps27
  go_wp2
  go_loopg [6] k (fun kq v6 w' => ∃ (x6_1 : Int), v6 = .int .i64 x6_1 ∧ Aside0 (incunableref03_Find.l0 kq l0 a1 x6_1 = some (r1, r2)) ∧ Aside0 (kq ≤ k) ∧ Aside0 (Below w.heap.size w w'))
  case atStart => exact ⟨(0), (by first | rfl | (simp; done) | (simp [*]; done)), H', ⟨Nat.le_refl _⟩, ⟨by repeat (first | (with_reducible first | exact HB.out | apply below_alloc | apply pw_below_drewN | apply below_drew1) | exact HB.out)⟩⟩
  case round =>
    clear H'
    try clear c2
    try clear p2
    obtain ⟨x6_1, rfl, HA, HK1, HB⟩ := hrel
    cases gk with
    | zero => exact absurd HA.out (by simp [incunableref03_Find.l0])
    | succ k1 =>
      have H := HA.out
      clear HA
      simp only [incunableref03_Find.l0] at H
      by_cases c3 : x6_1 < (l0.length : Int)
      · rw [if_pos c3] at H
        have c3b0 : decide (x6_1 < (l0.length : Int)) = true := decide_eq_true c3
        clear c3
        by_cases c4 : 0 ≤ x6_1
        · rw [if_pos c4] at H
          have c4b0 : decide (0 ≤ x6_1) = true := decide_eq_true c4
          clear c4
          by_cases c5 : ((rd_T33 l0 x6_1).f0) = a1
          · rw [if_pos c5] at H
            have c5b0 : (((rd_T33 l0 x6_1).f0) == a1) = true := beq_iff_eq.mpr c5
            have c5b1 : (((rd_T33 l0 x6_1).f0) != a1) = false := bne_eq_false_iff_eq.mpr c5
            clear c5
            replace H := Option.bind_eq_some_iff.mp H
            obtain ⟨t336, A60, H⟩ := H
            replace H : (some (t336, true)) = some (r1, r2) := H
            have A6 := Aside0.mk A60
            clear A60
            simp only [Option.some.injEq, Prod.mk.injEq] at H
            obtain ⟨rfl, rfl⟩ := H
            have p334 : 0 ≤ (x6_1 : Int) := of_decide_eq_true (by first | (with_reducible assumption) | assumption)
            have q334 : x6_1 < (l0.length : Int) := of_decide_eq_true (by first | (with_reducible assumption) | assumption)
            obtain ⟨ad334, A334_1, c334_1, e334, hx334_0, hx334_1, hl334_1, hi334_1⟩ := at_T33 HR0.out x6_1 p334 q334
            cases e334
            replace hx334_0 := (HB.out.cell (World.block_lt_of_cell? w _ hx334_0)).trans hx334_0
            replace hx334_1 := (HB.out.cell (World.block_lt_of_cell? w _ hx334_1)).trans hx334_1
            have HR334_1 := Aside0.mk hi334_1
            have HC334_1 := Aside0.mk hl334_1
            clear hi334_1 hl334_1
            replace p334 := eq_true p334
            replace q334 := eq_true q334
            have p335 : 0 ≤ (x6_1 : Int) := of_decide_eq_true (by first | (with_reducible assumption) | assumption)
            have q335 : x6_1 < (l0.length : Int) := of_decide_eq_true (by first | (with_reducible assumption) | assumption)
            obtain ⟨ad335, A335_1, c335_1, e335, hx335_0, hx335_1, hl335_1, hi335_1⟩ := at_T33 HR0.out x6_1 p335 q335
            obtain rfl : ad334 = ad335 := (by injection e335)
            replace hx335_0 := (HB.out.cell (World.block_lt_of_cell? w _ hx335_0)).trans hx335_0
            replace hx335_1 := (HB.out.cell (World.block_lt_of_cell? w _ hx335_1)).trans hx335_1
            have HR335_1 := Aside0.mk hi335_1
            have HC335_1 := Aside0.mk hl335_1
            clear hi335_1 hl335_1
            replace p335 := eq_true p335
            replace q335 := eq_true q335
            have ea_ := Option.some.inj (hx334_1.symm.trans hx335_1)
            injection ea_ with ea_ en_ ec_
            subst ea_
            subst ec_
            clear en_
            go_wp2_with (first | ((with_reducible refine gate_callee (f := 11) rfl ?_); refine goesL_ (some 25) rfl rfl Try.func11 (by kernel_rfl) rfl #[.slice A334_1 ((rd_T33 l0 x6_1).f1).length c334_1] rfl (by (try simp only [List.map_toArray, List.map_cons, List.map_nil]); first | done | rfl | (simp only [List.length_drop, List.length_take]; rfl)) ?_; (with_reducible refine (incunableref00_CopyBytes.calls _ _ ((rd_T33 l0 x6_1).f1) t336 _ ?side1 ?side2 A6.out).mono ?_); (case side1 => repeat (first | exact (Kd.C_below HR335_1.out HB.out) | (with_reducible refine Kd.C_alloc ?_ _) | (with_reducible refine Kd.C_drewN ?_ _) | (with_reducible refine Kd.C_drew ?_))); (case side2 => exact HC335_1.out); rintro e w7 ⟨v337, rfl, ho0, hb⟩; refine ⟨_, rfl, ?_⟩; have n0_ := Aside0.mk (Kd.R_lower ho0 (below_size (by repeat (first | (with_reducible first | exact HB.out | apply below_alloc | apply pw_below_drewN | apply below_drew1) | exact HB.out)))); have n1_ := Aside0.mk (below_step (by repeat (first | (with_reducible first | exact HB.out | apply below_alloc | apply pw_below_drewN | apply below_drew1) | exact HB.out)) hb); clear HB; have HO338 := n0_; have HB := n1_; clear n0_ n1_; (try clear hb); (try clear hb2); (try clear hk); (try clear hi); (try clear ho0)))
            go_ret2
            exact ⟨_, by first | rfl | (simp [errW_none, errW_some] <;> rfl) | (simp [*, errW_none, errW_some] <;> rfl), by (with_reducible repeat (first | apply Kd.R_alloc | apply Kd.R_drewN | apply Kd.R_drew)); exact HO338.out, by repeat (first | (with_reducible first | exact HB.out | apply below_alloc | apply pw_below_drewN | apply below_drew1) | exact HB.out)⟩
          · rw [if_neg c5] at H
            have c5b0 : (((rd_T33 l0 x6_1).f0) == a1) = false := beq_eq_false_iff_ne.mpr c5
            have c5b1 : (((rd_T33 l0 x6_1).f0) != a1) = true := bne_iff_ne.mpr c5
            have H' := Aside0.mk H
            clear H
            have p334 : 0 ≤ (x6_1 : Int) := of_decide_eq_true (by first | (with_reducible assumption) | assumption)
            have q334 : x6_1 < (l0.length : Int) := of_decide_eq_true (by first | (with_reducible assumption) | assumption)
            obtain ⟨ad334, A334_1, c334_1, e334, hx334_0, hx334_1, hl334_1, hi334_1⟩ := at_T33 HR0.out x6_1 p334 q334
            cases e334
            replace hx334_0 := (HB.out.cell (World.block_lt_of_cell? w _ hx334_0)).trans hx334_0
            replace hx334_1 := (HB.out.cell (World.block_lt_of_cell? w _ hx334_1)).trans hx334_1
            have HR334_1 := Aside0.mk hi334_1
            have HC334_1 := Aside0.mk hl334_1
            clear hi334_1 hl334_1
            replace p334 := eq_true p334
            replace q334 := eq_true q334
            go_wp2
            go_roundg k1
            case measure => have := HK1.out; omega
            case rel => exact ⟨(wrap64 (x6_1 + 1)), (by first | rfl | (simp; done) | (simp [*]; done)), H', ⟨by have := HK1.out; omega⟩, ⟨by repeat (first | (with_reducible first | exact HB.out | apply below_alloc | apply pw_below_drewN | apply below_drew1) | exact HB.out)⟩⟩
        · rw [if_neg c4] at H
          exact absurd H (by simp)
      · rw [if_neg c3] at H
        have c3b0 : decide (x6_1 < (l0.length : Int)) = false := decide_eq_false c3
        clear c3
        simp only [Option.some.injEq, Prod.mk.injEq] at H
        obtain ⟨rfl, rfl⟩ := H
        go_wp2
        go_ret2
        exact ⟨_, by first | rfl | (simp [errW_none, errW_some] <;> rfl) | (simp [*, errW_none, errW_some] <;> rfl), by first | exact Kd.R_nil _ _ _ _ _ | exact Kd.N_nil _ _ _ _ _ | exact Kd.V_nil _ _ _ _ _ | exact Kd.Q_nil _ _ _ _ _ | exact Kd.S_nil _ _ _ _ _, by repeat (first | (with_reducible first | exact HB.out | apply below_alloc | apply pw_below_drewN | apply below_drew1) | exact HB.out)⟩

end Go.Proofs.Ytpmikaoheaefiaa.X
