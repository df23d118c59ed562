import Derived.Test.YtkeekganabafbaaXJTu1
import Derived.Test.YtkeekganabafbaaXJTu2
import Derived.Test.YtkeekganabafbaaXJTu3
/- Texts of this claim, joined. -/
section
namespace Go.Proofs.Ytkeekganabafbaa.X
open Go.RowKit Go.Proofs.YtkeekganabafbaaW.PrintWords Go.Proofs.YtkeekganabafbaaW.PrintLast Go.Proofs.YtkeekganabafbaaW.PrintMore
attribute [local go_sem] max2_int min2_int max_two min_two max_three min_three max_four min_four   -- for this text's walks alone
set_option linter.unusedVariables false
set_option linter.unusedSimpArgs false
def tables_nums.l0 : Nat → Int → List Int → List Int → Int → Int → Option (List Int)
  | 0, _, _, _, _, _ => none
  | k + 1, x0, x5, x10, x11, x12 => if x12 < x11 then (if 0 ≤ x12 then (if x12 < (x10.length : Int) then ((varnum_Num.f k (wrap64 ((rd x10 x12) + x0))).bind fun bt177 => (if bt177.2 = 0 then (if x5.length + bt177.1.length < 225179981368000 then (tables_nums.l0 k x0 (x5 ++ bt177.1) x10 x11 (wrap64 (x12 + 1))) else (none)) else (some ([] : List Int)))) else (none)) else (none)) else (some x5)
def tables_nums.f (k : Nat) (a0 : Int) (l1 : List Int) : Option (List Int) := tables_nums.l0 k a0 ([] : List Int) l1 (l1.length : Int) 0
theorem tables_nums.mono_l : ∀ k, (∀ y0 y1 y2 y3 y4, LeO (tables_nums.l0 k y0 y1 y2 y3 y4) (tables_nums.l0 (k + 1) y0 y1 y2 y3 y4))
  | 0 => fun _ _ _ _ _ r h => by simp [tables_nums.l0] at h
  | k + 1 => by
    have ih0 := tables_nums.mono_l k
    · intro y0 y1 y2 y3 y4
      unfold tables_nums.l0
      repeat' first
      | (with_reducible exact ih0 _ _ _ _ _)
      | (with_reducible exact varnum_Num.mono _ _)
      | (with_reducible exact LeO.refl _)
      | (with_reducible exact LeO.none _)
      | (with_reducible refine LeO.ite ?_ ?_)
      | (with_reducible refine LeO.bind ?_ (fun _ => ?_))
      | exact ih0 _ _ _ _ _
      | exact varnum_Num.mono _ _
      | exact LeO.none _
      | refine LeO.ite ?_ ?_
      | refine LeO.bind ?_ (fun _ => ?_)
theorem tables_nums.mono : ∀ a0 a1 k, LeO (tables_nums.f k a0 a1) (tables_nums.f (k + 1) a0 a1) := by
  intro a0 a1 k
  have ih0 := tables_nums.mono_l k
  unfold tables_nums.f
  repeat' first
      | (with_reducible exact ih0 _ _ _ _ _)
      | (with_reducible exact varnum_Num.mono _ _)
      | (with_reducible exact LeO.refl _)
      | (with_reducible exact LeO.none _)
      | (with_reducible refine LeO.ite ?_ ?_)
      | (with_reducible refine LeO.bind ?_ (fun _ => ?_))
      | exact ih0 _ _ _ _ _
      | exact varnum_Num.mono _ _
      | exact LeO.none _
      | refine LeO.ite ?_ ?_
      | refine LeO.bind ?_ (fun _ => ?_)
set_option maxHeartbeats 8000000 in
set_option maxRecDepth 100000 in
theorem tables_nums.calls (k : Nat) (a0 : Int) (A1 : Option Addr) (c1 : Nat) (l1 : List Int) (r : List Int) (w : World) (hr1 : Kd.C (Kd.int .i64) w A1 l1.length l1) (hc1 : l1.length ≤ c1) (h : tables_nums.f k a0 l1 = some r) :
    Calls Try.prog 23 #[.int .i64 a0, .slice A1 l1.length c1] w fun e w' => ∃ v0_ : Value, e = .returned (v0_) ∧ Kd.R (Kd.int .u8) 5 w' w.heap.size (fun _ => True) v0_ r ∧ Below w.heap.size w w' := by
  have HR1 := Aside0.mk hr1
  have HC1 := Aside0.mk hc1
  clear hr1 hc1
  have HB := Aside0.mk (Below.refl w.heap.size w)
  have H : (tables_nums.l0 k a0 ([] : List Int) l1 (l1.length : Int) 0) = some r := h
  clear h
  have H' := Aside0.mk H
  clear H
  go_enter Try.func23, Try.ntmps23
  go_wp2
  go_loopg [5, 12] k (fun kq v5 v12 w' => ∃ (x5_1 : List Int) (x12_1 : Int), v12 = .int .i64 x12_1 ∧ Aside0 (tables_nums.l0 kq a0 x5_1 l1 (l1.length : Int) x12_1 = some r) ∧ Aside0 (kq ≤ k) ∧ Aside0 (Kd.R (Kd.int .u8) 5 w' w.heap.size (fun _ => True) v5 x5_1) ∧ Aside0 (Below w.heap.size w w'))
  case atStart => exact ⟨(([] : List Int)), (0), (by first | rfl | (simp; done) | (simp [*]; done)), H', ⟨Nat.le_refl _⟩, ⟨by first | exact Kd.R_nil _ _ _ _ _ | exact Kd.N_nil _ _ _ _ _ | exact Kd.V_nil _ _ _ _ _ | exact Kd.Q_nil _ _ _ _ _ | exact Kd.S_nil _ _ _ _ _⟩, ⟨by repeat (first | (with_reducible first | exact HB.out | apply below_alloc | apply pw_below_drewN | apply below_drew1) | exact HB.out)⟩⟩
  clear H'
  try clear c1
  try clear c2
  try clear p2
  obtain ⟨x5_1, x12_1, rfl, HA, HK1, HO_5, HB⟩ := hrel
  cases gk with
  | zero => exact absurd HA.out (by simp [tables_nums.l0])
  | succ k1 =>
    have H := HA.out
    clear HA
    simp only [tables_nums.l0] at H
    by_cases c3 : x12_1 < (l1.length : Int)
    · rw [if_pos c3] at H
      have c3b0 : decide (x12_1 < (l1.length : Int)) = true := decide_eq_true c3
      clear c3
      by_cases c4 : 0 ≤ x12_1
      · rw [if_pos c4] at H
        have c4b0 : decide (0 ≤ x12_1) = true := decide_eq_true c4
        clear c4
        by_cases c5 : x12_1 < (l1.length : Int)
        · rw [if_pos c5] at H
          have c5b0 : decide (x12_1 < (l1.length : Int)) = true := decide_eq_true c5
          clear c5
          replace H := Option.bind_eq_some_iff.mp H
          obtain ⟨⟨t177, t178⟩, A60, H⟩ := H
          replace H : (if t178 = 0 then (if x5_1.length + t177.length < 225179981368000 then (tables_nums.l0 k1 a0 (x5_1 ++ t177) l1 (l1.length : Int) (wrap64 (x12_1 + 1))) else (none)) else (some ([] : List Int))) = some r := H
          have A6 := Aside0.mk A60
          clear A60
          by_cases c7 : t178 = 0
          · rw [if_pos c7] at H
            have c7b0 : (t178 == 0) = true := beq_iff_eq.mpr c7
            have c7b1 : (t178 != 0) = false := bne_eq_false_iff_eq.mpr c7
            clear c7
            by_cases c8 : x5_1.length + t177.length < 225179981368000
            · rw [if_pos c8] at H
              have LMc8 := Aside0.mk c8
              clear c8
              obtain ⟨y181, hy181⟩ : ∃ y_ : List Int, y_ = (x5_1 ++ t177) := ⟨_, rfl⟩
              replace H : (tables_nums.l0 k1 a0 y181 l1 (l1.length : Int) (wrap64 (x12_1 + 1))) = some r := by first | (rw [hy181]; with_reducible exact H) | (have H2_ := (Option.bind_some _ _).symm.trans H; rw [hy181]; with_reducible exact H2_) | (have H2_ := (Option.bind_some _ _).symm.trans H; with_reducible exact H2_) | with_reducible exact H | (rw [hy181]; exact H) | exact H
              have Ny181 := Aside0.mk hy181
              clear hy181
              have H' := Aside0.mk H
              clear H
              have p176 : 0 ≤ (x12_1 : Int) := of_decide_eq_true (by first | (with_reducible assumption) | assumption)
              have q176 : x12_1 < (l1.length : Int) := of_decide_eq_true (by first | (with_reducible assumption) | assumption)
              obtain ⟨ad176, e176, hx176_0⟩ := Kd.at_int HR1.out x12_1 p176 q176
              cases e176
              replace hx176_0 := (HB.out.cell (World.block_lt_of_cell? w _ hx176_0)).trans hx176_0
              replace p176 := eq_true p176
              replace q176 := eq_true q176
              go_wp2_with (first | ((with_reducible refine gate_callee (f := 49) rfl ?_); refine goesL_ (some 20) rfl rfl Try.func49 (by kernel_rfl) rfl #[.int .i64 (wrap64 ((rd l1 x12_1) + a0))] rfl (by (try simp only [List.map_toArray, List.map_cons, List.map_nil]); first | done | rfl | (simp only [List.length_drop, List.length_take]; rfl)) ?_; (with_reducible refine (varnum_Num.calls k1 (wrap64 ((rd l1 x12_1) + a0)) t177 t178 _ A6.out).mono ?_); rintro e w9 ⟨v179, rfl, ho0, hb⟩; refine ⟨_, rfl, ?_⟩; have n0_ := Aside0.mk (Kd.R_elder' (by (with_reducible repeat (first | apply Kd.R_alloc | apply Kd.R_drewN | apply Kd.R_drew)); exact HO_5.out) (Kd.R_base ho0) hb); have n1_ := Aside0.mk (Kd.R_lower (Kd.R_new' ho0 (Kd.R_lt (by (with_reducible repeat (first | apply Kd.R_alloc | apply Kd.R_drewN | apply Kd.R_drew)); exact HO_5.out))) (below_size (by repeat (first | (with_reducible first | exact HB.out | apply below_alloc | apply pw_below_drewN | apply below_drew1) | exact HB.out)))); have n2_ := Aside0.mk (below_step (by repeat (first | (with_reducible first | exact HB.out | apply below_alloc | apply pw_below_drewN | apply below_drew1) | exact HB.out)) hb); clear HO_5; clear HB; have HO_5 := n0_; have HO180 := n1_; have HB := n2_; clear n0_ n1_ n2_; (try clear hb); (try clear hb2); (try clear hk); (try clear hi); (try clear ho0); obtain ⟨Ao11, co11, eo11⟩ := Kd.R_slice HO180.out; subst eo11) | ((with_reducible refine gate_builtin (b := .append) (xs := #[.tmp 25, .tmp 26]) rfl ?_); at_builtin; refine Kd.R_append_rows_wide (Kd.int .u8) (w0 := w) w.heap.size rfl (.tmp 25) (.tmp 26) 31 5 (.int .u8 0) 1 rfl Try.underlying31 info5 rfl (by decide) (by omega) u5 x5_1 t177 _ _ _ (fun k_ => some k_ ≠ (.slice Ao11 t177.length co11 : Value).ownBlock) (fun _ => False) rfl rfl ?aO ?aR (fun _ _ h => h) (fun _ h => h.elim) ?aF ?aB ?aS ?aL ?_; (case aR => repeat (first | exact (Kd.R_reads' HO180.out).2.2 | (with_reducible refine Kd.C_alloc ?_ _) | (with_reducible refine Kd.C_drewN ?_ _) | (with_reducible refine Kd.C_drew ?_))); (case aB => exact (by repeat (first | (with_reducible first | exact HB.out | apply below_alloc | apply pw_below_drewN | apply below_drew1) | exact HB.out))); (case aF => exact (fun k_ hk => Kd.fresh' (Kd.R_lt (by (with_reducible repeat (first | apply Kd.R_alloc | apply Kd.R_drewN | apply Kd.R_drew)); exact HO180.out)) k_ hk)); (case aO => exact (by (with_reducible repeat (first | apply Kd.R_alloc | apply Kd.R_drewN | apply Kd.R_drew)); exact Kd.R_mono HO_5.out (fun _ hk => hk.2))); (case aS => exact (below_size (by repeat (first | (with_reducible first | exact HB.out | apply below_alloc | apply pw_below_drewN | apply below_drew1) | exact HB.out)))); (case aL => have := LMc8.out; omega); intro v182 w10 ho hb hg hat; rw [← Ny181.out] at ho; have n0_ := Aside0.mk (Kd.R_after (ok := (fun _ => True)) (by (with_reducible repeat (first | apply Kd.R_alloc | apply Kd.R_drewN | apply Kd.R_drew)); exact HO180.out) hg hat); have n1_ := Aside0.mk (hb); have n2_ := Aside0.mk (ho); clear HO180; clear HB; clear HO_5; have HO180 := n0_; have HB := n1_; have HO183 := n2_; clear n0_ n1_ n2_; clear ho hb hg hat))
              go_roundg k1
              case measure => have := HK1.out; omega
              case rel => exact ⟨(y181), (wrap64 (x12_1 + 1)), (by first | rfl | (simp; done) | (simp [*]; done)), H', ⟨by have := HK1.out; omega⟩, ⟨by (with_reducible repeat (first | apply Kd.R_alloc | apply Kd.R_drewN | apply Kd.R_drew)); exact Kd.R_mono HO183.out (fun _ hk => trivial)⟩, ⟨by repeat (first | (with_reducible first | exact HB.out | apply below_alloc | apply pw_below_drewN | apply below_drew1) | exact HB.out)⟩⟩
            rw [if_neg c8] at H
            exact absurd H (by simp)
          rw [if_neg c7] at H
          have c7b0 : (t178 == 0) = false := beq_eq_false_iff_ne.mpr c7
          have c7b1 : (t178 != 0) = true := bne_iff_ne.mpr c7
          obtain rfl := Option.some.inj H
          have p176 : 0 ≤ (x12_1 : Int) := of_decide_eq_true (by first | (with_reducible assumption) | assumption)
          have q176 : x12_1 < (l1.length : Int) := of_decide_eq_true (by first | (with_reducible assumption) | assumption)
          obtain ⟨ad176, e176, hx176_0⟩ := Kd.at_int HR1.out x12_1 p176 q176
          cases e176
          replace hx176_0 := (HB.out.cell (World.block_lt_of_cell? w _ hx176_0)).trans hx176_0
          replace p176 := eq_true p176
          replace q176 := eq_true q176
          go_wp2_with (first | ((with_reducible refine gate_callee (f := 49) rfl ?_); refine goesL_ (some 20) rfl rfl Try.func49 (by kernel_rfl) rfl #[.int .i64 (wrap64 ((rd l1 x12_1) + a0))] rfl (by (try simp only [List.map_toArray, List.map_cons, List.map_nil]); first | done | rfl | (simp only [List.length_drop, List.length_take]; rfl)) ?_; (with_reducible refine (varnum_Num.calls k1 (wrap64 ((rd l1 x12_1) + a0)) t177 t178 _ A6.out).mono ?_); rintro e w12 ⟨v179, rfl, ho0, hb⟩; refine ⟨_, rfl, ?_⟩; have n0_ := Aside0.mk (Kd.R_elder' (by (with_reducible repeat (first | apply Kd.R_alloc | apply Kd.R_drewN | apply Kd.R_drew)); exact HO_5.out) (Kd.R_base ho0) hb); have n1_ := Aside0.mk (Kd.R_lower (Kd.R_new' ho0 (Kd.R_lt (by (with_reducible repeat (first | apply Kd.R_alloc | apply Kd.R_drewN | apply Kd.R_drew)); exact HO_5.out))) (below_size (by repeat (first | (with_reducible first | exact HB.out | apply below_alloc | apply pw_below_drewN | apply below_drew1) | exact HB.out)))); have n2_ := Aside0.mk (below_step (by repeat (first | (with_reducible first | exact HB.out | apply below_alloc | apply pw_below_drewN | apply below_drew1) | exact HB.out)) hb); clear HO_5; clear HB; have HO_5 := n0_; have HO180 := n1_; have HB := n2_; clear n0_ n1_ n2_; (try clear hb); (try clear hb2); (try clear hk); (try clear hi); (try clear ho0)))
          go_ret
          exact ⟨_, by first | rfl | (simp [errW_none, errW_some] <;> rfl) | (simp [*, errW_none, errW_some] <;> rfl), by first | exact Kd.R_nil _ _ _ _ _ | exact Kd.N_nil _ _ _ _ _ | exact Kd.V_nil _ _ _ _ _ | exact Kd.Q_nil _ _ _ _ _ | exact Kd.S_nil _ _ _ _ _, by repeat (first | (with_reducible first | exact HB.out | apply below_alloc | apply pw_below_drewN | apply below_drew1) | exact HB.out)⟩
        rw [if_neg c5] at H
        exact absurd H (by simp)
      rw [if_neg c4] at H
      exact absurd H (by simp)
    rw [if_neg c3] at H
    have c3b0 : decide (x12_1 < (l1.length : Int)) = false := decide_eq_false c3
    clear c3
    obtain rfl := Option.some.inj H
    go_wp2
    go_ret
    exact ⟨_, by first | rfl | (simp [errW_none, errW_some] <;> rfl) | (simp [*, errW_none, errW_some] <;> rfl), by (with_reducible repeat (first | apply Kd.R_alloc | apply Kd.R_drewN | apply Kd.R_drew)); exact HO_5.out, by repeat (first | (with_reducible first | exact HB.out | apply below_alloc | apply pw_below_drewN | apply below_drew1) | exact HB.out)⟩
def tables_code.f (a0_0 : Int) (a0_1 : Int) : Option (Int) := if a0_0 = 3 then (some 1) else (if a0_0 = 1 then (some (wrap64 (2 + (wrap64 (2 * a0_1))))) else (if a0_0 = 2 then (some (wrap64 (3 + (wrap64 (2 * a0_1))))) else (some 0)))
set_option maxHeartbeats 8000000 in
set_option maxRecDepth 100000 in
theorem tables_code.calls (a0_0 : Int) (a0_1 : Int) (r : Int) (w : World) (h : tables_code.f a0_0 a0_1 = some r) :
    Calls Try.prog 24 #[.agg #[.int .i64 a0_0, .int .i64 a0_1]] w fun e w' => e = .returned (.int .i64 r) ∧ Below w.heap.size w w' := by
  have hu38 := Try.underlying38
  have HB := Aside0.mk (Below.refl w.heap.size w)
  have H : (if a0_0 = 3 then (some 1) else (if a0_0 = 1 then (some (wrap64 (2 + (wrap64 (2 * a0_1))))) else (if a0_0 = 2 then (some (wrap64 (3 + (wrap64 (2 * a0_1))))) else (some 0)))) = some r := h
  clear h
  by_cases c2 : a0_0 = 3
  · rw [if_pos c2] at H
    have c2b0 : (a0_0 == 3) = true := beq_iff_eq.mpr c2
    have c2b1 : (a0_0 != 3) = false := bne_eq_false_iff_eq.mpr c2
    clear c2
    obtain rfl := Option.some.inj H
    go_enter Try.func24, Try.ntmps24
    go_wp2_with (first | ((with_reducible refine gate_dst (N := 1) rfl ?_); refine box_event ?hg (N := 1) ?hd (cs := #[.int .i64 a0_0, .int .i64 a0_1]) (t := 38) ?hr ?_; (case hd => rfl); (case hg => rfl); (case hr => first | (go_simp; done) | (go_simp; rfl)); intro gb184 hg w3 hbox hb; have n0_ := Aside0.mk (below_step (by repeat (first | (with_reducible first | exact HB.out | apply below_alloc | apply pw_below_drewN | apply below_drew1) | exact HB.out)) hb); have n1_ := Aside0.mk (hbox); have n2_ := Aside0.mk ((by rw [hg]; exact (below_size (by repeat (first | (with_reducible first | exact HB.out | apply below_alloc | apply pw_below_drewN | apply below_drew1) | exact HB.out))) : w.heap.size ≤ gb184)); have n3_ := Aside0.mk ((by rw [hg]; exact (below_size (by repeat (first | (with_reducible first | exact HB.out | apply below_alloc | apply pw_below_drewN | apply below_drew1) | exact HB.out))) : w.heap.size ≤ gb184)); clear HB; have HB := n0_; have BK184 := n1_; have GW184 := n2_; have GE184 := n3_; clear n0_ n1_ n2_ n3_; clear hb hbox hg; have hcz4_0 : w3.cell? ⟨gb184, 0, none⟩ = some (.int .i64 a0_0) := (blk_cell BK184.out 0).trans rfl; have hcz4_1 : w3.cell? ⟨gb184, 1, none⟩ = some (.int .i64 a0_1) := (blk_cell BK184.out 1).trans rfl; have hfz4_0 := blk_frozen BK184.out 0; have hfz4_1 := blk_frozen BK184.out 1))
    go_ret
    exact ⟨by first | rfl | (simp [errW_none, errW_some] <;> rfl) | (simp [*, errW_none, errW_some] <;> rfl), by repeat (first | (with_reducible first | exact HB.out | apply below_alloc | apply pw_below_drewN | apply below_drew1 | refine below_set ?_ GE184.out) | exact HB.out)⟩
  rw [if_neg c2] at H
  have c2b0 : (a0_0 == 3) = false := beq_eq_false_iff_ne.mpr c2
  have c2b1 : (a0_0 != 3) = true := bne_iff_ne.mpr c2
  by_cases c5 : a0_0 = 1
  · rw [if_pos c5] at H
    have c5b0 : (a0_0 == 1) = true := beq_iff_eq.mpr c5
    have c5b1 : (a0_0 != 1) = false := bne_eq_false_iff_eq.mpr c5
    clear c5
    obtain rfl := Option.some.inj H
    go_enter Try.func24, Try.ntmps24
    go_wp2_with (first | ((with_reducible refine gate_dst (N := 1) rfl ?_); refine box_event ?hg (N := 1) ?hd (cs := #[.int .i64 a0_0, .int .i64 a0_1]) (t := 38) ?hr ?_; (case hd => rfl); (case hg => rfl); (case hr => first | (go_simp; done) | (go_simp; rfl)); intro gb184 hg w6 hbox hb; have n0_ := Aside0.mk (below_step (by repeat (first | (with_reducible first | exact HB.out | apply below_alloc | apply pw_below_drewN | apply below_drew1) | exact HB.out)) hb); have n1_ := Aside0.mk (hbox); have n2_ := Aside0.mk ((by rw [hg]; exact (below_size (by repeat (first | (with_reducible first | exact HB.out | apply below_alloc | apply pw_below_drewN | apply below_drew1) | exact HB.out))) : w.heap.size ≤ gb184)); have n3_ := Aside0.mk ((by rw [hg]; exact (below_size (by repeat (first | (with_reducible first | exact HB.out | apply below_alloc | apply pw_below_drewN | apply below_drew1) | exact HB.out))) : w.heap.size ≤ gb184)); clear HB; have HB := n0_; have BK184 := n1_; have GW184 := n2_; have GE184 := n3_; clear n0_ n1_ n2_ n3_; clear hb hbox hg; have hcz7_0 : w6.cell? ⟨gb184, 0, none⟩ = some (.int .i64 a0_0) := (blk_cell BK184.out 0).trans rfl; have hcz7_1 : w6.cell? ⟨gb184, 1, none⟩ = some (.int .i64 a0_1) := (blk_cell BK184.out 1).trans rfl; have hfz7_0 := blk_frozen BK184.out 0; have hfz7_1 := blk_frozen BK184.out 1))
    go_ret
    exact ⟨by first | rfl | (simp [errW_none, errW_some] <;> rfl) | (simp [*, errW_none, errW_some] <;> rfl), by repeat (first | (with_reducible first | exact HB.out | apply below_alloc | apply pw_below_drewN | apply below_drew1 | refine below_set ?_ GE184.out) | exact HB.out)⟩
  rw [if_neg c5] at H
  have c5b0 : (a0_0 == 1) = false := beq_eq_false_iff_ne.mpr c5
  have c5b1 : (a0_0 != 1) = true := bne_iff_ne.mpr c5
  by_cases c8 : a0_0 = 2
  · rw [if_pos c8] at H
    have c8b0 : (a0_0 == 2) = true := beq_iff_eq.mpr c8
    have c8b1 : (a0_0 != 2) = false := bne_eq_false_iff_eq.mpr c8
    clear c8
    obtain rfl := Option.some.inj H
    go_enter Try.func24, Try.ntmps24
    go_wp2_with (first | ((with_reducible refine gate_dst (N := 1) rfl ?_); refine box_event ?hg (N := 1) ?hd (cs := #[.int .i64 a0_0, .int .i64 a0_1]) (t := 38) ?hr ?_; (case hd => rfl); (case hg => rfl); (case hr => first | (go_simp; done) | (go_simp; rfl)); intro gb184 hg w9 hbox hb; have n0_ := Aside0.mk (below_step (by repeat (first | (with_reducible first | exact HB.out | apply below_alloc | apply pw_below_drewN | apply below_drew1) | exact HB.out)) hb); have n1_ := Aside0.mk (hbox); have n2_ := Aside0.mk ((by rw [hg]; exact (below_size (by repeat (first | (with_reducible first | exact HB.out | apply below_alloc | apply pw_below_drewN | apply below_drew1) | exact HB.out))) : w.heap.size ≤ gb184)); have n3_ := Aside0.mk ((by rw [hg]; exact (below_size (by repeat (first | (with_reducible first | exact HB.out | apply below_alloc | apply pw_below_drewN | apply below_drew1) | exact HB.out))) : w.heap.size ≤ gb184)); clear HB; have HB := n0_; have BK184 := n1_; have GW184 := n2_; have GE184 := n3_; clear n0_ n1_ n2_ n3_; clear hb hbox hg; have hcz10_0 : w9.cell? ⟨gb184, 0, none⟩ = some (.int .i64 a0_0) := (blk_cell BK184.out 0).trans rfl; have hcz10_1 : w9.cell? ⟨gb184, 1, none⟩ = some (.int .i64 a0_1) := (blk_cell BK184.out 1).trans rfl; have hfz10_0 := blk_frozen BK184.out 0; have hfz10_1 := blk_frozen BK184.out 1))
    go_ret
    exact ⟨by first | rfl | (simp [errW_none, errW_some] <;> rfl) | (simp [*, errW_none, errW_some] <;> rfl), by repeat (first | (with_reducible first | exact HB.out | apply below_alloc | apply pw_below_drewN | apply below_drew1 | refine below_set ?_ GE184.out) | exact HB.out)⟩
  rw [if_neg c8] at H
  have c8b0 : (a0_0 == 2) = false := beq_eq_false_iff_ne.mpr c8
  have c8b1 : (a0_0 != 2) = true := bne_iff_ne.mpr c8
  obtain rfl := Option.some.inj H
  go_enter Try.func24, Try.ntmps24
  go_wp2_with (first | ((with_reducible refine gate_dst (N := 1) rfl ?_); refine box_event ?hg (N := 1) ?hd (cs := #[.int .i64 a0_0, .int .i64 a0_1]) (t := 38) ?hr ?_; (case hd => rfl); (case hg => rfl); (case hr => first | (go_simp; done) | (go_simp; rfl)); intro gb184 hg w11 hbox hb; have n0_ := Aside0.mk (below_step (by repeat (first | (with_reducible first | exact HB.out | apply below_alloc | apply pw_below_drewN | apply below_drew1) | exact HB.out)) hb); have n1_ := Aside0.mk (hbox); have n2_ := Aside0.mk ((by rw [hg]; exact (below_size (by repeat (first | (with_reducible first | exact HB.out | apply below_alloc | apply pw_below_drewN | apply below_drew1) | exact HB.out))) : w.heap.size ≤ gb184)); have n3_ := Aside0.mk ((by rw [hg]; exact (below_size (by repeat (first | (with_reducible first | exact HB.out | apply below_alloc | apply pw_below_drewN | apply below_drew1) | exact HB.out))) : w.heap.size ≤ gb184)); clear HB; have HB := n0_; have BK184 := n1_; have GW184 := n2_; have GE184 := n3_; clear n0_ n1_ n2_ n3_; clear hb hbox hg; have hcz12_0 : w11.cell? ⟨gb184, 0, none⟩ = some (.int .i64 a0_0) := (blk_cell BK184.out 0).trans rfl; have hcz12_1 : w11.cell? ⟨gb184, 1, none⟩ = some (.int .i64 a0_1) := (blk_cell BK184.out 1).trans rfl; have hfz12_0 := blk_frozen BK184.out 0; have hfz12_1 := blk_frozen BK184.out 1))
  go_ret
  exact ⟨by first | rfl | (simp [errW_none, errW_some] <;> rfl) | (simp [*, errW_none, errW_some] <;> rfl), by repeat (first | (with_reducible first | exact HB.out | apply below_alloc | apply pw_below_drewN | apply below_drew1 | refine below_set ?_ GE184.out) | exact HB.out)⟩
def slices_Grow_int_int.f (_l0 : List Int) (a1 : Int) : Option (List Int) := if 0 ≤ a1 ∧ a1 ≤ 17592186044416 then some [] else none
set_option maxHeartbeats 8000000 in
set_option maxRecDepth 100000 in
theorem slices_Grow_int_int.calls (_A0 _c0 : Unit) (l0 : List Int) (a1 : Int) (r : List Int) (w : World) (_hr0 : Kd.C (Kd.int .i64) w none ([] : List Int).length []) (_hc0 : ([] : List Int).length ≤ 0) (h : slices_Grow_int_int.f l0 a1 = some r) :
    Calls Try.prog 50 #[.slice none 0 0, .int .i64 a1] w fun e w' => ∃ v0_ : Value, e = .returned (v0_) ∧ Kd.R (Kd.int .i64) 3 w' w.heap.size (fun _ => True) v0_ r ∧ Below w.heap.size w w' := by
  have HB := Aside0.mk (Below.refl w.heap.size w)
  clear _hr0 _hc0
  have H : (if 0 ≤ a1 ∧ a1 ≤ 17592186044416 then some [] else none) = some r := h
  clear h
  by_cases c2 : 0 ≤ a1 ∧ a1 ≤ 17592186044416
  · rw [if_pos c2] at H
    obtain rfl := Option.some.inj H
    obtain ⟨b0, b1⟩ := c2
    clear H
    obtain ⟨i0, hi0, _, hsz0, _⟩ := info_parts info3
    have hcutA := cut_to (P := Try.prog) 24 3 .i64 Try.underlying24 hi0 none 0 0 0 (by omega) (by omega) (Nat.le_refl 0)
    rcases Int.lt_or_eq_of_le b0 with hp | hz
    · have LM := Aside0.mk b1
      have LZ := Aside0.mk b0
      have c3 : decide (a1 < 0) = false := decide_eq_false (by omega)
      have c4 : decide (0 < a1) = true := decide_eq_true hp
      have c5 : a1 - 0 = a1 := by omega
      go_enter Try.func50, Try.ntmps50
      go_wp2_with ((with_reducible refine gate_builtin (b := .append) (xs := #[.tmp 20, .tmp 21]) rfl ?_); at_builtin; refine Kd.R_append_zeros (Kd.int .i64) (w0 := w) w.heap.size rfl (.tmp 20) (.tmp 21) 24 3 3 (.int .i64 0) 8 rfl Try.underlying24 Try.underlying3 info3 rfl (by decide) (by omega) (.slice none 0 0) ([] : List Int) (0 : Int) a1 (fun _ => True) rfl rfl ?zz (fun _ _ => trivial) (Kd.R_nil _ _ _ _ _) LZ.out HB.out (Nat.le_refl _) ?zl ?_; (case zz => rfl); (case zl => have := LM.out; simp; omega); intro v1 w1 ho hb hg hat; clear hg hat; obtain ⟨A1, c1, hv1, hlc, _⟩ := Kd.R_reads ho; obtain ⟨m, hm⟩ : ∃ m, m = (([] : List Int) ++ List.replicate a1.toNat 0).length := ⟨_, rfl⟩; rw [← hm] at hv1 hlc; clear hm; subst hv1; have HO := Aside0.mk (Kd.R_take (m := 0) ho (Nat.zero_le _)); have HB1 := Aside0.mk hb; have hcut := cut_to (P := Try.prog) 24 3 .i64 Try.underlying24 hi0 A1 m c1 0 (by omega) (by omega) hlc; clear ho hb hlc)
      go_ret
      exact ⟨_, rfl, by simpa using HO.out, HB1.out⟩
    subst hz
    go_enter Try.func50, Try.ntmps50
    go_wp2
    go_ret
    exact ⟨_, rfl, Kd.R_nil _ _ _ _ _, HB.out⟩
  rw [if_neg c2] at H
  exact absurd H (by simp)
end Go.Proofs.Ytkeekganabafbaa.X
end
section
namespace Go.Proofs.Ytkeekganabafbaa.X
open Go.RowKit Go.Proofs.YtkeekganabafbaaW.PrintWords Go.Proofs.YtkeekganabafbaaW.PrintLast Go.Proofs.YtkeekganabafbaaW.PrintMore
attribute [local go_sem] max2_int min2_int max_two min_two max_three min_three max_four min_four   -- for this text's walks alone
set_option linter.unusedVariables false
set_option linter.unusedSimpArgs false
mutual
def slices_Concat_int_int.l0 : Nat → List (List Int) → Int → List (List Int) → Int → Int → Option (List Int)
  | 0, _, _, _, _, _ => none
  | k + 1, x0, x3, x9, x10, x11 => if x11 < x10 then (if 0 ≤ x11 then (if x11 < (x9.length : Int) then (if (wrap64 (x3 + ((rd_L4 x9 x11).length : Int))) < 0 then (none) else (slices_Concat_int_int.l0 k x0 (wrap64 (x3 + ((rd_L4 x9 x11).length : Int))) x9 x10 (wrap64 (x11 + 1)))) else (none)) else (none)) else ((slices_Grow_int_int.f ([] : List Int) x3).bind fun t186 => (slices_Concat_int_int.l1 k t186 x0 (x0.length : Int) 0))
def slices_Concat_int_int.l1 : Nat → List Int → List (List Int) → Int → Int → Option (List Int)
  | 0, _, _, _, _ => none
  | k + 1, x6, x25, x26, x27 => if x27 < x26 then (if 0 ≤ x27 then (if x27 < (x25.length : Int) then (if x6.length + (rd_L4 x25 x27).length < 17592186044416 then (slices_Concat_int_int.l1 k (x6 ++ (rd_L4 x25 x27)) x25 x26 (wrap64 (x27 + 1))) else (none)) else (none)) else (none)) else (some x6)
end
def slices_Concat_int_int.f (k : Nat) (l0 : List (List Int)) : Option (List Int) := slices_Concat_int_int.l0 k l0 0 l0 (l0.length : Int) 0
theorem slices_Concat_int_int.mono_l : ∀ k, (∀ y0 y1 y2 y3 y4, LeO (slices_Concat_int_int.l0 k y0 y1 y2 y3 y4) (slices_Concat_int_int.l0 (k + 1) y0 y1 y2 y3 y4)) ∧ (∀ y0 y1 y2 y3, LeO (slices_Concat_int_int.l1 k y0 y1 y2 y3) (slices_Concat_int_int.l1 (k + 1) y0 y1 y2 y3))
  | 0 => ⟨fun _ _ _ _ _ r h => by simp [slices_Concat_int_int.l0] at h, fun _ _ _ _ r h => by simp [slices_Concat_int_int.l1] at h⟩
  | k + 1 => by
    obtain ⟨ih0, ih1⟩ := slices_Concat_int_int.mono_l k
    refine ⟨?_, ?_⟩
    · intro y0 y1 y2 y3 y4
      unfold slices_Concat_int_int.l0
      repeat' first
      | (with_reducible exact ih0 _ _ _ _ _)
      | (with_reducible exact ih1 _ _ _ _)
      | (with_reducible exact LeO.refl _)
      | (with_reducible exact LeO.none _)
      | (with_reducible refine LeO.ite ?_ ?_)
      | (with_reducible refine LeO.bind ?_ (fun _ => ?_))
      | exact ih0 _ _ _ _ _
      | exact ih1 _ _ _ _
      | exact LeO.none _
      | refine LeO.ite ?_ ?_
      | refine LeO.bind ?_ (fun _ => ?_)
    intro y0 y1 y2 y3
    unfold slices_Concat_int_int.l1
    repeat' first
    | (with_reducible exact ih0 _ _ _ _ _)
    | (with_reducible exact ih1 _ _ _ _)
    | (with_reducible exact LeO.refl _)
    | (with_reducible exact LeO.none _)
    | (with_reducible refine LeO.ite ?_ ?_)
    | (with_reducible refine LeO.bind ?_ (fun _ => ?_))
    | exact ih0 _ _ _ _ _
    | exact ih1 _ _ _ _
    | exact LeO.none _
    | refine LeO.ite ?_ ?_
    | refine LeO.bind ?_ (fun _ => ?_)
theorem slices_Concat_int_int.mono : ∀ a0 k, LeO (slices_Concat_int_int.f k a0) (slices_Concat_int_int.f (k + 1) a0) := by
  intro a0 k
  obtain ⟨ih0, ih1⟩ := slices_Concat_int_int.mono_l k
  unfold slices_Concat_int_int.f
  repeat' first
      | (with_reducible exact ih0 _ _ _ _ _)
      | (with_reducible exact ih1 _ _ _ _)
      | (with_reducible exact LeO.refl _)
      | (with_reducible exact LeO.none _)
      | (with_reducible refine LeO.ite ?_ ?_)
      | (with_reducible refine LeO.bind ?_ (fun _ => ?_))
      | exact ih0 _ _ _ _ _
      | exact ih1 _ _ _ _
      | exact LeO.none _
      | refine LeO.ite ?_ ?_
      | refine LeO.bind ?_ (fun _ => ?_)
set_option maxHeartbeats 8000000 in
set_option maxRecDepth 100000 in
theorem slices_Concat_int_int.calls (k : Nat) (A0 : Option Addr) (c0 : Nat) (l0 : List (List Int)) (r : List Int) (w : World) (hr0 : Kd.C (Kd.slice 3 (Kd.int .i64)) w A0 l0.length l0) (hc0 : l0.length ≤ c0) (h : slices_Concat_int_int.f k l0 = some r) :
    Calls Try.prog 25 #[.slice A0 l0.length c0] w fun e w' => ∃ v0_ : Value, e = .returned (v0_) ∧ Kd.R (Kd.int .i64) 3 w' w.heap.size (fun _ => True) v0_ r ∧ Below w.heap.size w w' := by
  have HR0 := Aside0.mk hr0
  have HC0 := Aside0.mk hc0
  clear hr0 hc0
  have HB := Aside0.mk (Below.refl w.heap.size w)
  have H : (slices_Concat_int_int.l0 k l0 0 l0 (l0.length : Int) 0) = some r := h
  clear h
  have H' := Aside0.mk H
  clear H
  go_enter Try.func25, Try.ntmps25
  go_wp2
  go_loopg [3, 11] k (fun kq v3 v11 w' => ∃ (x3_1 : Int) (x11_1 : Int), v3 = .int .i64 x3_1 ∧ v11 = .int .i64 x11_1 ∧ Aside0 (slices_Concat_int_int.l0 kq l0 x3_1 l0 (l0.length : Int) x11_1 = some r) ∧ Aside0 (kq ≤ k) ∧ Aside0 (Below w.heap.size w w'))
  case atStart => exact ⟨(0), (0), (by first | rfl | (simp; done) | (simp [*]; done)), (by first | rfl | (simp; done) | (simp [*]; done)), H', ⟨Nat.le_refl _⟩, ⟨by repeat (first | (with_reducible first | exact HB.out | apply below_alloc | apply pw_below_drewN | apply below_drew1) | exact HB.out)⟩⟩
  clear H'
  obtain ⟨x3_1, x11_1, rfl, rfl, HA, HK1, HB⟩ := hrel
  cases gk with
  | zero => exact absurd HA.out (by simp [slices_Concat_int_int.l0])
  | succ k1 =>
    have H := HA.out
    clear HA
    simp only [slices_Concat_int_int.l0] at H
    by_cases c2 : x11_1 < (l0.length : Int)
    · rw [if_pos c2] at H
      have c2b0 : decide (x11_1 < (l0.length : Int)) = true := decide_eq_true c2
      clear c2
      by_cases c3 : 0 ≤ x11_1
      · rw [if_pos c3] at H
        have c3b0 : decide (0 ≤ x11_1) = true := decide_eq_true c3
        clear c3
        by_cases c4 : x11_1 < (l0.length : Int)
        · rw [if_pos c4] at H
          have c4b0 : decide (x11_1 < (l0.length : Int)) = true := decide_eq_true c4
          clear c4
          by_cases c5 : (wrap64 (x3_1 + ((rd_L4 l0 x11_1).length : Int))) < 0
          · rw [if_pos c5] at H
            exact absurd H (by simp)
          rw [if_neg c5] at H
          have c5b0 : decide ((wrap64 (x3_1 + ((rd_L4 l0 x11_1).length : Int))) < 0) = false := decide_eq_false c5
          clear c5
          have H' := Aside0.mk H
          clear H
          have p185 : 0 ≤ (x11_1 : Int) := of_decide_eq_true (by first | (with_reducible assumption) | assumption)
          have q185 : x11_1 < (l0.length : Int) := of_decide_eq_true (by first | (with_reducible assumption) | assumption)
          obtain ⟨ad185, A185_0, c185_0, e185, hx185_0, hl185_0, hi185_0⟩ := at_L4 HR0.out x11_1 p185 q185
          cases e185
          replace hx185_0 := (HB.out.cell (World.block_lt_of_cell? w _ hx185_0)).trans hx185_0
          have HR185_0 := Aside0.mk hi185_0
          have HC185_0 := Aside0.mk hl185_0
          clear hi185_0 hl185_0
          replace p185 := eq_true p185
          replace q185 := eq_true q185
          go_wp2
          go_roundg k1
          case measure => have := HK1.out; omega
          case rel => exact ⟨(wrap64 (x3_1 + ((rd_L4 l0 x11_1).length : Int))), (wrap64 (x11_1 + 1)), (by first | rfl | (simp; done) | (simp [*]; done)), (by first | rfl | (simp; done) | (simp [*]; done)), H', ⟨by have := HK1.out; omega⟩, ⟨by repeat (first | (with_reducible first | exact HB.out | apply below_alloc | apply pw_below_drewN | apply below_drew1) | exact HB.out)⟩⟩
        rw [if_neg c4] at H
        exact absurd H (by simp)
      rw [if_neg c3] at H
      exact absurd H (by simp)
    rw [if_neg c2] at H
    have c2b0 : decide (x11_1 < (l0.length : Int)) = false := decide_eq_false c2
    clear c2
    replace H := Option.bind_eq_some_iff.mp H
    obtain ⟨t186, A60, H⟩ := H
    replace H : (slices_Concat_int_int.l1 k1 t186 l0 (l0.length : Int) 0) = some r := H
    have A6 := Aside0.mk A60
    clear A60
    have H' := Aside0.mk H
    clear H
    go_wp2_with (first | ((with_reducible refine gate_callee (f := 50) rfl ?_); refine goesL_ (some 24) rfl rfl Try.func50 (by kernel_rfl) rfl #[.slice none 0 0, .int .i64 x3_1] rfl (by (try simp only [List.map_toArray, List.map_cons, List.map_nil]); first | done | rfl | (simp only [List.length_drop, List.length_take]; rfl)) ?_; (refine (slices_Grow_int_int.calls () () ([] : List Int) x3_1 t186 _ ?side1 ?side2 A6.out).mono ?_); (case side1 => exact Kd.C_nil _ _); (case side2 => exact Nat.le_refl _); rintro e w7 ⟨v187, rfl, ho0, hb⟩; refine ⟨_, rfl, ?_⟩; have n0_ := Aside0.mk (Kd.R_lower ho0 (below_size (by repeat (first | (with_reducible first | exact HB.out | apply below_alloc | apply pw_below_drewN | apply below_drew1) | exact HB.out)))); have n1_ := Aside0.mk (below_step (by repeat (first | (with_reducible first | exact HB.out | apply below_alloc | apply pw_below_drewN | apply below_drew1) | exact HB.out)) hb); clear HB; have HO188 := n0_; have HB := n1_; clear n0_ n1_; (try clear hb); (try clear hb2); (try clear hk); (try clear hi); (try clear ho0)))
    go_loopg [6, 27] k1 (fun kq v6 v27 w' => ∃ (x6_2 : List Int) (x27_2 : Int), v27 = .int .i64 x27_2 ∧ Aside0 (slices_Concat_int_int.l1 kq x6_2 l0 (l0.length : Int) x27_2 = some r) ∧ Aside0 (kq ≤ k1) ∧ Aside0 (Kd.R (Kd.int .i64) 3 w' w.heap.size (fun _ => True) v6 x6_2) ∧ Aside0 (Below w.heap.size w w'))
    case atStart => exact ⟨(t186), (0), (by first | rfl | (simp; done) | (simp [*]; done)), H', ⟨Nat.le_refl _⟩, ⟨by (with_reducible repeat (first | apply Kd.R_alloc | apply Kd.R_drewN | apply Kd.R_drew)); exact HO188.out⟩, ⟨by repeat (first | (with_reducible first | exact HB.out | apply below_alloc | apply pw_below_drewN | apply below_drew1) | exact HB.out)⟩⟩
    clear H'
    try clear c1
    try clear p1
    try clear q1
    try clear hx1
    try clear c2
    try clear c2b0
    try clear p2
    try clear c3
    try clear c3b0
    try clear c4
    try clear c4b0
    try clear c5
    try clear c5b0
    try clear p6
    try clear hx185_0
    try clear p185
    try clear q185
    obtain ⟨x6_2, x27_2, rfl, HA, HK2, HO_6, HB⟩ := hrel
    cases gk with
    | zero => exact absurd HA.out (by simp [slices_Concat_int_int.l1])
    | succ k2 =>
      have H := HA.out
      clear HA
      simp only [slices_Concat_int_int.l1] at H
      by_cases c8 : x27_2 < (l0.length : Int)
      · rw [if_pos c8] at H
        have c8b0 : decide (x27_2 < (l0.length : Int)) = true := decide_eq_true c8
        clear c8
        by_cases c9 : 0 ≤ x27_2
        · rw [if_pos c9] at H
          have c9b0 : decide (0 ≤ x27_2) = true := decide_eq_true c9
          clear c9
          by_cases c10 : x27_2 < (l0.length : Int)
          · rw [if_pos c10] at H
            have c10b0 : decide (x27_2 < (l0.length : Int)) = true := decide_eq_true c10
            clear c10
            by_cases c11 : x6_2.length + (rd_L4 l0 x27_2).length < 17592186044416
            · rw [if_pos c11] at H
              have LMc11 := Aside0.mk c11
              clear c11
              obtain ⟨y190, hy190⟩ : ∃ y_ : List Int, y_ = (x6_2 ++ (rd_L4 l0 x27_2)) := ⟨_, rfl⟩
              replace H : (slices_Concat_int_int.l1 k2 y190 l0 (l0.length : Int) (wrap64 (x27_2 + 1))) = some r := by first | (rw [hy190]; with_reducible exact H) | (have H2_ := (Option.bind_some _ _).symm.trans H; rw [hy190]; with_reducible exact H2_) | (have H2_ := (Option.bind_some _ _).symm.trans H; with_reducible exact H2_) | with_reducible exact H | (rw [hy190]; exact H) | exact H
              have Ny190 := Aside0.mk hy190
              clear hy190
              have H' := Aside0.mk H
              clear H
              have p189 : 0 ≤ (x27_2 : Int) := of_decide_eq_true (by first | (with_reducible assumption) | assumption)
              have q189 : x27_2 < (l0.length : Int) := of_decide_eq_true (by first | (with_reducible assumption) | assumption)
              obtain ⟨ad189, A189_0, c189_0, e189, hx189_0, hl189_0, hi189_0⟩ := at_L4 HR0.out x27_2 p189 q189
              cases e189
              replace hx189_0 := (HB.out.cell (World.block_lt_of_cell? w _ hx189_0)).trans hx189_0
              have HR189_0 := Aside0.mk hi189_0
              have HC189_0 := Aside0.mk hl189_0
              clear hi189_0 hl189_0
              replace p189 := eq_true p189
              replace q189 := eq_true q189
              go_wp2_with (first | ((with_reducible refine gate_builtin (b := .append) (xs := #[.tmp 31, .tmp 32]) rfl ?_); at_builtin; refine Kd.R_append_rows (Kd.int .i64) (w0 := w) w.heap.size rfl (.tmp 31) (.tmp 32) 24 3 (.int .i64 0) 8 rfl Try.underlying24 info3 rfl (by decide) (by omega) u6 x6_2 (rd_L4 l0 x27_2) _ _ _ (fun _ => True) (fun _ => False) rfl rfl ?aO ?aR (fun _ _ h => h) (fun _ h => h.elim) ?aF ?aB ?aS ?aL ?_; (case aR => repeat (first | exact (Kd.C_below HR189_0.out HB.out) | (with_reducible refine Kd.C_alloc ?_ _) | (with_reducible refine Kd.C_drewN ?_ _) | (with_reducible refine Kd.C_drew ?_))); (case aB => exact (by repeat (first | (with_reducible first | exact HB.out | apply below_alloc | apply pw_below_drewN | apply below_drew1) | exact HB.out))); (case aF => exact (fun _ _ => trivial)); (case aO => exact (by (with_reducible repeat (first | apply Kd.R_alloc | apply Kd.R_drewN | apply Kd.R_drew)); exact HO_6.out)); (case aS => exact (below_size (by repeat (first | (with_reducible first | exact HB.out | apply below_alloc | apply pw_below_drewN | apply below_drew1) | exact HB.out)))); (case aL => have := LMc11.out; omega); intro v191 w12 ho hb hg hat; rw [← Ny190.out] at ho; have n0_ := Aside0.mk (hb); have n1_ := Aside0.mk (ho); clear HB; clear HO_6; have HB := n0_; have HO192 := n1_; clear n0_ n1_; clear ho hb hg hat))
              go_roundg k2
              case measure => have := HK1.out; have := HK2.out; omega
              case rel => exact ⟨(y190), (wrap64 (x27_2 + 1)), (by first | rfl | (simp; done) | (simp [*]; done)), H', ⟨by have := HK1.out; have := HK2.out; omega⟩, ⟨by (with_reducible repeat (first | apply Kd.R_alloc | apply Kd.R_drewN | apply Kd.R_drew)); exact HO192.out⟩, ⟨by repeat (first | (with_reducible first | exact HB.out | apply below_alloc | apply pw_below_drewN | apply below_drew1) | exact HB.out)⟩⟩
            rw [if_neg c11] at H
            exact absurd H (by simp)
          rw [if_neg c10] at H
          exact absurd H (by simp)
        rw [if_neg c9] at H
        exact absurd H (by simp)
      rw [if_neg c8] at H
      have c8b0 : decide (x27_2 < (l0.length : Int)) = false := decide_eq_false c8
      clear c8
      obtain rfl := Option.some.inj H
      go_wp2
      go_ret
      exact ⟨_, by first | rfl | (simp [errW_none, errW_some] <;> rfl) | (simp [*, errW_none, errW_some] <;> rfl), by (with_reducible repeat (first | apply Kd.R_alloc | apply Kd.R_drewN | apply Kd.R_drew)); exact HO_6.out, by repeat (first | (with_reducible first | exact HB.out | apply below_alloc | apply pw_below_drewN | apply below_drew1) | exact HB.out)⟩
def slices_Equal_int_int.l0 : Nat → List Int → List Int → Int → Int → Option (Bool)
  | 0, _, _, _, _ => none
  | k + 1, x0, x1, x12, x13 => if x13 < x12 then (if 0 ≤ x13 then (if x13 < (x0.length : Int) then (if x13 < (x1.length : Int) then (if (rd x0 x13) = (rd x1 x13) then (slices_Equal_int_int.l0 k x0 x1 x12 (wrap64 (x13 + 1))) else (some false)) else (none)) else (none)) else (none)) else (some true)
def slices_Equal_int_int.f (k : Nat) (l0 : List Int) (l1 : List Int) : Option (Bool) := if (l0.length : Int) = (l1.length : Int) then (slices_Equal_int_int.l0 k l0 l1 (l0.length : Int) 0) else (some false)
theorem slices_Equal_int_int.mono_l : ∀ k, (∀ y0 y1 y2 y3, LeO (slices_Equal_int_int.l0 k y0 y1 y2 y3) (slices_Equal_int_int.l0 (k + 1) y0 y1 y2 y3))
  | 0 => fun _ _ _ _ r h => by simp [slices_Equal_int_int.l0] at h
  | k + 1 => by
    have ih0 := slices_Equal_int_int.mono_l k
    · intro y0 y1 y2 y3
      unfold slices_Equal_int_int.l0
      repeat' first
      | (with_reducible exact ih0 _ _ _ _)
      | (with_reducible exact LeO.refl _)
      | (with_reducible exact LeO.none _)
      | (with_reducible refine LeO.ite ?_ ?_)
      | (with_reducible refine LeO.bind ?_ (fun _ => ?_))
      | exact ih0 _ _ _ _
      | exact LeO.none _
      | refine LeO.ite ?_ ?_
      | refine LeO.bind ?_ (fun _ => ?_)
theorem slices_Equal_int_int.mono : ∀ a0 a1 k, LeO (slices_Equal_int_int.f k a0 a1) (slices_Equal_int_int.f (k + 1) a0 a1) := by
  intro a0 a1 k
  have ih0 := slices_Equal_int_int.mono_l k
  unfold slices_Equal_int_int.f
  repeat' first
      | (with_reducible exact ih0 _ _ _ _)
      | (with_reducible exact LeO.refl _)
      | (with_reducible exact LeO.none _)
      | (with_reducible refine LeO.ite ?_ ?_)
      | (with_reducible refine LeO.bind ?_ (fun _ => ?_))
      | exact ih0 _ _ _ _
      | exact LeO.none _
      | refine LeO.ite ?_ ?_
      | refine LeO.bind ?_ (fun _ => ?_)
set_option maxHeartbeats 8000000 in
set_option maxRecDepth 100000 in
theorem slices_Equal_int_int.calls (k : Nat) (A0 : Option Addr) (c0 : Nat) (l0 : List Int) (A1 : Option Addr) (c1 : Nat) (l1 : List Int) (r : Bool) (w : World) (hr0 : Kd.C (Kd.int .i64) w A0 l0.length l0) (hc0 : l0.length ≤ c0) (hr1 : Kd.C (Kd.int .i64) w A1 l1.length l1) (hc1 : l1.length ≤ c1) (h : slices_Equal_int_int.f k l0 l1 = some r) :
    Calls Try.prog 26 #[.slice A0 l0.length c0, .slice A1 l1.length c1] w fun e w' => e = .returned (.bool r) ∧ Drawn0 w w' := by
  have HR0 := Aside0.mk hr0
  have HC0 := Aside0.mk hc0
  clear hr0 hc0
  have HR1 := Aside0.mk hr1
  have HC1 := Aside0.mk hc1
  clear hr1 hc1
  have H : (if (l0.length : Int) = (l1.length : Int) then (slices_Equal_int_int.l0 k l0 l1 (l0.length : Int) 0) else (some false)) = some r := h
  clear h
  by_cases c3 : (l0.length : Int) = (l1.length : Int)
  · rw [if_pos c3] at H
    have c3b0 : ((l0.length : Int) == (l1.length : Int)) = true := beq_iff_eq.mpr c3
    have c3b1 : ((l0.length : Int) != (l1.length : Int)) = false := bne_eq_false_iff_eq.mpr c3
    have c3b2 : (l0.length == l1.length) = true := by first | simpa using c3 | (simp at c3 ⊢; omega)
    clear c3
    have H' := Aside0.mk H
    clear H
    go_enter Try.func26, Try.ntmps26
    go_wp2
    repeat (go_quiet (fail); try go_wp2)
    go_loopg [13] k (fun kq v13 w' => ∃ (x13_1 : Int), v13 = .int .i64 x13_1 ∧ Aside0 (slices_Equal_int_int.l0 kq l0 l1 (l0.length : Int) x13_1 = some r) ∧ Aside0 (kq ≤ k) ∧ Drawn0 w w')
    case atStart => exact ⟨(0), (by first | rfl | (simp; done) | (simp [*]; done)), H', ⟨Nat.le_refl _⟩, by repeat (first | exact Drawn0.refl _ | apply Drawn0.step)⟩
    clear H'
    try clear c1
    try clear c2
    try clear p2
    try clear c3
    try clear c3b0
    try clear c3b1
    try clear c3b2
    obtain ⟨x13_1, rfl, HA, HK1, ⟨m1, rfl⟩⟩ := hrel
    cases gk with
    | zero => exact absurd HA.out (by simp [slices_Equal_int_int.l0])
    | succ k1 =>
      have H := HA.out
      clear HA
      simp only [slices_Equal_int_int.l0] at H
      by_cases c4 : x13_1 < (l0.length : Int)
      · rw [if_pos c4] at H
        have c4b0 : decide (x13_1 < (l0.length : Int)) = true := decide_eq_true c4
        clear c4
        by_cases c5 : 0 ≤ x13_1
        · rw [if_pos c5] at H
          have c5b0 : decide (0 ≤ x13_1) = true := decide_eq_true c5
          clear c5
          by_cases c6 : x13_1 < (l0.length : Int)
          · rw [if_pos c6] at H
            have c6b0 : decide (x13_1 < (l0.length : Int)) = true := decide_eq_true c6
            clear c6
            by_cases c7 : x13_1 < (l1.length : Int)
            · rw [if_pos c7] at H
              have c7b0 : decide (x13_1 < (l1.length : Int)) = true := decide_eq_true c7
              clear c7
              by_cases c8 : (rd l0 x13_1) = (rd l1 x13_1)
              · rw [if_pos c8] at H
                have c8b0 : ((rd l0 x13_1) == (rd l1 x13_1)) = true := beq_iff_eq.mpr c8
                have c8b1 : ((rd l0 x13_1) != (rd l1 x13_1)) = false := bne_eq_false_iff_eq.mpr c8
                clear c8
                have H' := Aside0.mk H
                clear H
                have p193 : 0 ≤ (x13_1 : Int) := of_decide_eq_true (by first | (with_reducible assumption) | assumption)
                have q193 : x13_1 < (l0.length : Int) := of_decide_eq_true (by first | (with_reducible assumption) | assumption)
                obtain ⟨ad193, e193, hx193_0⟩ := Kd.at_int HR0.out x13_1 p193 q193
                cases e193
                replace p193 := eq_true p193
                replace q193 := eq_true q193
                have p194 : 0 ≤ (x13_1 : Int) := of_decide_eq_true (by first | (with_reducible assumption) | assumption)
                have q194 : x13_1 < (l1.length : Int) := of_decide_eq_true (by first | (with_reducible assumption) | assumption)
                obtain ⟨ad194, e194, hx194_0⟩ := Kd.at_int HR1.out x13_1 p194 q194
                cases e194
                replace p194 := eq_true p194
                replace q194 := eq_true q194
                go_wp2
                repeat (go_quiet (fail); try go_wp2)
                go_roundg k1
                case measure => have := HK1.out; omega
                case rel => exact ⟨(wrap64 (x13_1 + 1)), (by first | rfl | (simp; done) | (simp [*]; done)), H', ⟨by have := HK1.out; omega⟩, by repeat (first | exact Drawn0.refl _ | apply Drawn0.step)⟩
              rw [if_neg c8] at H
              have c8b0 : ((rd l0 x13_1) == (rd l1 x13_1)) = false := beq_eq_false_iff_ne.mpr c8
              have c8b1 : ((rd l0 x13_1) != (rd l1 x13_1)) = true := bne_iff_ne.mpr c8
              obtain rfl := Option.some.inj H
              have p193 : 0 ≤ (x13_1 : Int) := of_decide_eq_true (by first | (with_reducible assumption) | assumption)
              have q193 : x13_1 < (l0.length : Int) := of_decide_eq_true (by first | (with_reducible assumption) | assumption)
              obtain ⟨ad193, e193, hx193_0⟩ := Kd.at_int HR0.out x13_1 p193 q193
              cases e193
              replace p193 := eq_true p193
              replace q193 := eq_true q193
              have p194 : 0 ≤ (x13_1 : Int) := of_decide_eq_true (by first | (with_reducible assumption) | assumption)
              have q194 : x13_1 < (l1.length : Int) := of_decide_eq_true (by first | (with_reducible assumption) | assumption)
              obtain ⟨ad194, e194, hx194_0⟩ := Kd.at_int HR1.out x13_1 p194 q194
              cases e194
              replace p194 := eq_true p194
              replace q194 := eq_true q194
              go_wp2
              repeat (go_quiet (fail); try go_wp2)
              go_ret
              exact ⟨by first | rfl | (simp; done) | (simp [*]; done), by repeat (first | exact Drawn0.refl _ | apply Drawn0.step)⟩
            rw [if_neg c7] at H
            exact absurd H (by simp)
          rw [if_neg c6] at H
          exact absurd H (by simp)
        rw [if_neg c5] at H
        exact absurd H (by simp)
      rw [if_neg c4] at H
      have c4b0 : decide (x13_1 < (l0.length : Int)) = false := decide_eq_false c4
      clear c4
      obtain rfl := Option.some.inj H
      go_wp2
      repeat (go_quiet (fail); try go_wp2)
      go_ret
      exact ⟨by first | rfl | (simp; done) | (simp [*]; done), by repeat (first | exact Drawn0.refl _ | apply Drawn0.step)⟩
  rw [if_neg c3] at H
  have c3b0 : ((l0.length : Int) == (l1.length : Int)) = false := beq_eq_false_iff_ne.mpr c3
  have c3b1 : ((l0.length : Int) != (l1.length : Int)) = true := bne_iff_ne.mpr c3
  have c3b2 : (l0.length == l1.length) = false := by first | simpa using c3 | (simp at c3 ⊢; omega)
  obtain rfl := Option.some.inj H
  go_enter Try.func26, Try.ntmps26
  go_wp2
  repeat (go_quiet (fail); try go_wp2)
  go_ret
  exact ⟨by first | rfl | (simp; done) | (simp [*]; done), by repeat (first | exact Drawn0.refl _ | apply Drawn0.step)⟩
end Go.Proofs.Ytkeekganabafbaa.X
end
section
namespace Go.Proofs.Ytkeekganabafbaa.Pure
set_option linter.unusedVariables false
set_option linter.unusedSimpArgs false
open Go.RowKit Go.Proofs.Ytkeekganabafbaa.X Go.Proofs.YtkeekganabafbaaW.PrintWords Go.Proofs.YtkeekganabafbaaW.PrintLast Go.Proofs.YtkeekganabafbaaW.PrintMore
theorem rd_rowZ (l : List (List Int)) (i : Nat) (h : i < l.length) : rd_L4 l (i : Int) = l[i] := by
  unfold rd_L4
  rw [Int.toNat_natCast, List.getD_eq_getElem?_getD, List.getElem?_eq_getElem h, Option.getD_some]
theorem concatZ_l1 (l : List (List Int)) (hn : l.length ≤ 1048576) (hs : l.flatten.length ≤ 1048576) (d : Nat) : ∀ i : Nat, i + d = l.length → Ev (fun k => slices_Concat_int_int.l1 k (l.take i).flatten l (l.length : Int) (i : Int)) l.flatten := by
  induction d with
  | zero =>
    intro i hi
    refine Ev.step (f := fun k => _) (fun k => by simp only [slices_Concat_int_int.l1]; rfl) ?_
    refine ev_neg (by omega) ?_
    rw [List.take_of_length_le (by omega)]
    exact Ev.now _
  | succ d ih =>
    intro i hi
    refine Ev.step (f := fun k => _) (fun k => by simp only [slices_Concat_int_int.l1]; rfl) ?_
    have h1 := flat_le l i
    have h2 := row_le l i (by omega)
    rw [rd_rowZ l i (by omega)]
    refine ev_pos (by omega) (ev_pos (by omega) (ev_pos (by omega) (ev_pos (by omega) ?_)))
    rw [← flat_succ l i (by omega), w64 (by omega) (by omega)]
    exact ih (i + 1) (by omega)
theorem concatZ_l0 (l : List (List Int)) (hn : l.length ≤ 1048576) (hs : l.flatten.length ≤ 1048576) (d : Nat) : ∀ i : Nat, i + d = l.length → Ev (fun k => slices_Concat_int_int.l0 k l ((l.take i).flatten.length : Int) l (l.length : Int) (i : Int)) l.flatten := by
  induction d with
  | zero =>
    intro i hi
    refine Ev.step (f := fun k => _) (fun k => by simp only [slices_Concat_int_int.l0]; rfl) ?_
    have h1 := flat_le l i
    refine ev_neg (by omega) ?_
    refine ev_some (f := fun k t => _) (a := ([] : List Int)) (by unfold slices_Grow_int_int.f; rw [if_pos (by omega)]) ?_
    exact concatZ_l1 l hn hs l.length 0 (by omega)
  | succ d ih =>
    intro i hi
    refine Ev.step (f := fun k => _) (fun k => by simp only [slices_Concat_int_int.l0]; rfl) ?_
    have h1 := flat_le l i
    have h2 := row_le l i (by omega)
    rw [rd_rowZ l i (by omega), w64 (x := (i : Int) + 1) (by omega) (by omega), w64 (by omega) (by omega)]
    refine ev_pos (by omega) (ev_pos (by omega) (ev_pos (by omega) (ev_neg (by omega) ?_)))
    have := ih (i + 1) (by omega)
    rw [flat_succ l i (by omega), List.length_append] at this
    exact_mod_cast this
theorem concatZ_ev (l : List (List Int)) (hn : l.length ≤ 1048576) (hs : l.flatten.length ≤ 1048576) : Ev (fun k => slices_Concat_int_int.f k l) l.flatten := concatZ_l0 l hn hs l.length 0 (by omega)
def numsL (more : Int) (l : List Int) : List Int := (l.map (fun x => enc (x + more).toNat)).flatten
theorem numsL_append (m : Int) (a b : List Int) : numsL m (a ++ b) = numsL m a ++ numsL m b := by unfold numsL; rw [List.map_append, List.flatten_append]
theorem numsL_cons (m x : Int) (l : List Int) : numsL m (x :: l) = enc (x + m).toNat ++ numsL m l := by unfold numsL; rw [List.map_cons, List.flatten_cons]
theorem numsL_BI (m : Int) (l : List Int) : BI (numsL m l) := by
  induction l with
  | nil => exact fun x h => by cases h
  | cons a l ih => rw [numsL_cons]; exact BI_append (enc_BI _ _ (Nat.le_refl _)) ih
def fits (m : Int) (l : List Int) : Prop := ∀ x ∈ l, 0 ≤ x + m ∧ x + m ≤ 9007199254740991
theorem numsL_length (m : Int) (l : List Int) (h : fits m l) : (numsL m l).length ≤ 8 * l.length := by
  induction l with
  | nil => exact Nat.le_refl _
  | cons a l ih =>
    rw [numsL_cons, List.length_append, List.length_cons]
    have h1 := h a (by simp)
    have h2 := enc_le8 (a + m).toNat (by omega)
    have h3 := ih (fun x hx => h x (by simp [hx]))
    omega
theorem nums_loop (m : Int) (hm : 0 ≤ m ∧ m ≤ 1) (l : List Int) (h : fits m l) (hl : l.length ≤ 1000000) (d : Nat) : ∀ i : Nat, i + d = l.length → ∀ acc : List Int, acc.length ≤ 8 * i → Ev (fun k => tables_nums.l0 k m acc l (l.length : Int) (i : Int)) (acc ++ numsL m (l.drop i)) := by
  induction d with
  | zero =>
    intro i hi acc ha
    refine Ev.step (f := fun k => _) (fun k => by simp only [tables_nums.l0]; rfl) ?_
    refine ev_neg (by omega) ?_
    rw [List.drop_eq_nil_of_le (by omega), show numsL m [] = [] from rfl, List.append_nil]
    exact Ev.now _
  | succ d ih =>
    intro i hi acc ha
    have hil : i < l.length := by omega
    have hx : rd l (i : Int) = l[i] := rd_at l i hil
    have hr := h l[i] (List.getElem_mem hil)
    refine Ev.step (f := fun k => _) (fun k => by simp only [tables_nums.l0]; rfl) ?_
    refine ev_pos (by omega) (ev_pos (by omega) (ev_pos (by omega) ?_))
    rw [hx, w64 (by omega) (by omega)]
    have hnum := num_ev (l[i] + m)
    have e1 : numI (l[i] + m) = (enc (l[i] + m).toNat, 0) := by unfold numI; rw [if_pos hr]
    rw [e1] at hnum
    refine Ev.bind (f := fun k t => _) hnum ?_
    refine ev_pos rfl ?_
    have h8 := enc_le8 (l[i] + m).toNat (by omega)
    refine ev_pos (by show acc.length + (enc (l[i] + m).toNat).length < 225179981368000; omega) ?_
    rw [w64 (by omega) (by omega)]
    have := ih (i + 1) (by omega) (acc ++ enc (l[i] + m).toNat) (by rw [List.length_append]; omega)
    rw [List.append_assoc, ← numsL_cons, ← List.drop_eq_getElem_cons hil] at this
    exact_mod_cast this
theorem nums_ev (m : Int) (hm : 0 ≤ m ∧ m ≤ 1) (l : List Int) (h : fits m l) (hl : l.length ≤ 1000000) : Ev (fun k => tables_nums.f k m l) (numsL m l) := by
  have := nums_loop m hm l h hl l.length 0 (by omega) [] (Nat.le_refl _)
  rwa [List.nil_append, List.drop_zero] at this
def codeI (a : S38) : Int := (tables_code.f a.f0 a.f1).getD 0
theorem code_some (a : S38) : tables_code.f a.f0 a.f1 = some (codeI a) := by
  unfold codeI tables_code.f
  repeat' split
  all_goals rfl
theorem code_range (a : S38) (k s p : Int) (hs : s ≤ 512) (hp : p ≤ 128) (h : actOk a k s p = true) : 0 ≤ codeI a ∧ codeI a ≤ 1027 := by
  have h1 := actOk_some a k s p
  rw [h] at h1
  unfold tables_mayAct.f at h1
  unfold codeI tables_code.f
  by_cases c0 : a.f0 = 0
  · rw [if_neg (by omega), if_neg (by omega), if_neg (by omega)]; exact ⟨by decide, by decide⟩
  rw [if_neg c0] at h1
  by_cases c3 : a.f0 = 3
  · rw [if_pos c3]; exact ⟨by decide, by decide⟩
  rw [if_neg c3] at h1 ⊢
  by_cases c1 : a.f0 = 1
  · rw [if_pos c1] at h1 ⊢
    by_cases d1 : k > 0
    · rw [if_pos d1] at h1
      by_cases d2 : a.f1 ≥ 0
      · rw [if_pos d2] at h1
        have d3 := of_decide_eq_true (Option.some.inj h1)
        show 0 ≤ wrap64 (2 + wrap64 (2 * a.f1)) ∧ wrap64 (2 + wrap64 (2 * a.f1)) ≤ 1027
        rw [w64 (x := 2 * a.f1) (by omega) (by omega), w64 (by omega) (by omega)]
        omega
      rw [if_neg d2] at h1; cases h1
    rw [if_neg d1] at h1; cases h1
  rw [if_neg c1] at h1 ⊢
  by_cases c2 : a.f0 = 2
  · rw [if_pos c2] at h1 ⊢
    by_cases d2 : a.f1 ≥ 1
    · rw [if_pos d2] at h1
      have d3 := of_decide_eq_true (Option.some.inj h1)
      show 0 ≤ wrap64 (3 + wrap64 (2 * a.f1)) ∧ wrap64 (3 + wrap64 (2 * a.f1)) ≤ 1027
      rw [w64 (x := 2 * a.f1) (by omega) (by omega), w64 (by omega) (by omega)]
      omega
    rw [if_neg d2] at h1; cases h1
  rw [if_neg c2] at h1; cases h1
def dimsL (T : Tab) : List Int := [(T.next.length : Int), ((rd_L4 T.next 0).length : Int), (T.terms.length : Int), (T.action.length : Int), (tN T : Int), (nN T : Int), (T.left.length : Int)]
def prodsL (T : Tab) : List Int := ((T.left.zip T.size).map (fun x => [x.1, x.2])).flatten
def secL (T : Tab) : List S48 := [⟨1, numsL 0 (dimsL T)⟩, ⟨2, T.cls.map (fun k => k % 256)⟩, ⟨3, numsL 1 T.next.flatten⟩, ⟨4, numsL 1 T.rule⟩, ⟨5, numsL 0 T.terms⟩, ⟨6, numsL 0 (T.action.flatten.map codeI)⟩, ⟨7, numsL 1 T.goto.flatten⟩, ⟨8, numsL 0 (prodsL T)⟩]
def bytesI (T : Tab) : List Int × Int := if mayB T = true then packI 1 (secL T) else ([], 220)
end Go.Proofs.Ytkeekganabafbaa.Pure
end
section
namespace Go.Proofs.Ytkeekganabafbaa.X
open Go.RowKit Go.Proofs.YtkeekganabafbaaW.PrintWords Go.Proofs.YtkeekganabafbaaW.PrintLast Go.Proofs.YtkeekganabafbaaW.PrintMore Go.Proofs.Ytkeekganabafbaa.Pure
set_option linter.unusedVariables false
abbrev CB (w : World) (A : Option Addr) (n : Nat) (l : List Int) : Prop := (Kd.int .u8).C w A n l
theorem RC {W : World} {b : Nat} {ok : Nat → Prop} {A : Option Addr} {n c : Nat} {l : List Int} (h : (Kd.int .u8).R 5 W b ok (.slice A n c) l) : l.length = n ∧ CB W A n l ∧ n ≤ c := by
  have h2 := Kd.R_reads' h
  have h1 := h2.1
  subst h1
  exact ⟨rfl, h2.2.2, h2.2.1⟩
structure Thing where
  P : World → (Nat → Prop) → Prop
  mono : ∀ {W : World} {ok ok' : Nat → Prop}, P W ok → (∀ k, ok k → ok' k) → P W ok'
  step : ∀ {W W' : World} {ok : Nat → Prop}, P W ok → (∀ k, ok k → k < W.heap.size → W'.heap[k]? = W.heap[k]?) → P W' ok
def tB (base : Nat) (v : Value) (l : List Int) : Thing := ⟨fun W ok => (Kd.int .u8).R 5 W base ok v l, fun h hk => Kd.R_mono h hk, fun h hm => Kd.R_step h hm⟩
def Sep (W : World) (N : Nat) (Xs : List Thing) : Prop := N ≤ W.heap.size ∧ ∃ om : Nat → Nat, ∀ i (X : Thing), Xs[i]? = some X → X.P W (fun k => om k = i ∧ k < N)
theorem Sep.nil (W : World) : Sep W W.heap.size [] := ⟨Nat.le_refl _, fun _ => 0, fun i X h => by cases h⟩
theorem Sep.below {W W' : World} {N : Nat} {Xs : List Thing} (h : Sep W N Xs) (hb : Below W.heap.size W W') : Sep W' N Xs := by
  obtain ⟨hN, om, hx⟩ := h
  exact ⟨Nat.le_trans hN hb.size, om, fun i X hi => X.step (hx i X hi) (fun k _ hlt => hb.block k hlt)⟩
theorem Sep.add {W : World} {N : Nat} {Xs : List Thing} (h : Sep W N Xs) (Y : Thing) (hY : Y.P W (fun k => N ≤ k ∧ k < W.heap.size)) : Sep W W.heap.size (Xs ++ [Y]) := by
  obtain ⟨hN, om, hx⟩ := h
  refine ⟨Nat.le_refl _, fun k => if k < N then om k else Xs.length, fun i X hi => ?_⟩
  rcases Nat.lt_trichotomy i Xs.length with hlt | heq | hgt
  · rw [List.getElem?_append_left hlt] at hi
    exact X.mono (hx i X hi) (fun k hk => ⟨by dsimp only; rw [if_pos hk.2]; exact hk.1, by omega⟩)
  · subst heq
    rw [List.getElem?_append_right (Nat.le_refl _), Nat.sub_self] at hi
    injection hi with hi
    subst hi
    exact Y.mono hY (fun k hk => ⟨by dsimp only; rw [if_neg (by omega)], hk.2⟩)
  rw [List.getElem?_eq_none (by simp; omega)] at hi
  cases hi
theorem Sep.upd {W : World} {N : Nat} {Xs : List Thing} (h : Sep W N Xs) (i : Nat) (X : Thing) (hi : Xs[i]? = some X) :
    ∃ S : Nat → Prop, X.P W S ∧ (∀ k, S k → k < N) ∧ ∀ (W' : World) (X' : Thing), Kept W W' S → X'.P W' (fun k => (S k ∨ W.heap.size ≤ k) ∧ k < W'.heap.size) → Sep W' W'.heap.size (Xs.set i X') := by
  obtain ⟨hN, om, hx⟩ := h
  refine ⟨fun k => om k = i ∧ k < N, hx i X hi, fun k hk => hk.2, fun W' X' hK hX' => ?_⟩
  have hil : i < Xs.length := (List.getElem?_eq_some_iff.1 hi).1
  refine ⟨Nat.le_refl _, fun k => if k < N then om k else if k < W.heap.size then Xs.length else i, fun j Y hj => ?_⟩
  by_cases hji : j = i
  · subst hji
    rw [List.getElem?_set_self hil] at hj
    injection hj with hj
    subst hj
    refine X'.mono hX' (fun k hk => ⟨?_, hk.2⟩)
    rcases hk.1 with h1 | h1
    · dsimp only; rw [if_pos h1.2]; exact h1.1
    dsimp only; rw [if_neg (by omega), if_neg (by omega)]
  rw [List.getElem?_set_ne (fun h => hji h.symm)] at hj
  have hY := Y.mono (hx j Y hj) (ok' := fun k => om k = j ∧ k < N) (fun k hk => hk)
  have hY2 := Y.step hY (W' := W') (fun k hk hlt => hK.2 k hlt (fun hs => hji (hk.1.symm.trans hs.1)))
  exact Y.mono hY2 (fun k hk => ⟨by dsimp only; rw [if_pos hk.2]; exact hk.1, Nat.lt_of_lt_of_le hk.2 (Nat.le_trans hN hK.1)⟩)
theorem Sep.take {W : World} {N : Nat} {Xs : List Thing} (h : Sep W N Xs) (n : Nat) : Sep W N (Xs.take n) := by
  obtain ⟨hN, om, hx⟩ := h
  exact ⟨hN, om, fun i X hi => hx i X (by rw [List.getElem?_take] at hi; split at hi; exact hi; cases hi)⟩
theorem Sep.get {W : World} {N : Nat} {Xs : List Thing} (h : Sep W N Xs) (i : Nat) (X : Thing) (hi : Xs[i]? = some X) : ∃ S : Nat → Prop, X.P W S ∧ ∀ k, S k → k < N := by
  obtain ⟨S, h1, h2, _⟩ := h.upd i X hi
  exact ⟨S, h1, h2⟩
theorem Sep.bytes {W : World} {N base : Nat} {Xs : List Thing} (h : Sep W N Xs) (i : Nat) {A : Option Addr} {n c : Nat} {l : List Int} (hi : Xs[i]? = some (tB base (.slice A n c) l)) : l.length = n ∧ CB W A n l ∧ n ≤ c := by
  obtain ⟨S, hX, _⟩ := h.get i _ hi
  exact RC hX
theorem Sep.addB {w W W' : World} {N : Nat} {Xs : List Thing} (h : Sep W N Xs) (hB : Below w.heap.size w W) (hb : Below W.heap.size W W') {ok : Nat → Prop} {v : Value} {l : List Int} (hR : (Kd.int .u8).R 5 W' W.heap.size ok v l) : Sep W' W'.heap.size (Xs ++ [tB w.heap.size v l]) :=
  (h.below hb).add _ (show (Kd.int .u8).R 5 W' w.heap.size (fun k => N ≤ k ∧ k < W'.heap.size) v l from Kd.R_lower (Kd.R_mono (Kd.R_bound hR) (fun k hk => ⟨Nat.le_trans h.1 hk.2.1, hk.2.2.1⟩)) hB.size)
theorem Sep.now {W : World} {N : Nat} {Xs : List Thing} (h : Sep W N Xs) : Sep W W.heap.size Xs := by
  obtain ⟨hN, om, hx⟩ := h
  exact ⟨Nat.le_refl _, om, fun i X hi => X.mono (hx i X hi) (fun k hk => ⟨hk.1, Nat.lt_of_lt_of_le hk.2 hN⟩)⟩
theorem Sep.put {w W : World} {N : Nat} {Xs : List Thing} (h : Sep W N Xs) (i : Nat) {g M c : Nat} {l : List Int} (hi : Xs[i]? = some (tB w.heap.size (.slice (some ⟨g, 0, none⟩) M c) l)) (hB : Below w.heap.size w W) (j : Int) (h0 : 0 ≤ j) (h1 : j < (M : Int)) :
    W.cell? ⟨g, j.toNat, none⟩ = some (.int .u8 (rd l j)) ∧ W.frozen? ⟨g, j.toNat, none⟩ = false ∧ ∀ y : Int, Sep (W.setCell ⟨g, j.toNat, none⟩ (.int .u8 y)) (W.setCell ⟨g, j.toNat, none⟩ (.int .u8 y)).heap.size (Xs.set i (tB w.heap.size (.slice (some ⟨g, 0, none⟩) M c) (l.set j.toNat y))) ∧ Below w.heap.size w (W.setCell ⟨g, j.toNat, none⟩ (.int .u8 y)) := by
  obtain ⟨S, hX, hS, hup⟩ := h.upd i _ hi
  have hX' : (Kd.int .u8).R 5 W w.heap.size S (.slice (some ⟨g, 0, none⟩) M c) l := hX
  have hc := Kd.R_celln (0 : Int) hX' j h0 h1
  have hSg : S g := hX'.1 g (by simp [Value.ownBlock])
  have hgb := Kd.R_base hX' g (by simp [Value.ownBlock])
  refine ⟨hc.1, hc.2, fun y => ⟨hup _ _ ((Kept.refl _ _).setCell (.inl hSg) _) ?_, hB.setCell hgb _⟩⟩
  have hP := Kd.R_putn hX' j y
  exact Kd.R_mono (Kd.R_bound hP) (fun k hk => ⟨.inl hk.1, hk.2.2.1⟩)
theorem Sep.form {W : World} {N base : Nat} {Xs : List Thing} (h : Sep W N Xs) (i : Nat) {A : Option Addr} {n c : Nat} {l : List Int} (hi : Xs[i]? = some (tB base (.slice A n c) l)) (hn : 0 < n) : ∃ g, A = some ⟨g, 0, none⟩ := by
  obtain ⟨S, hX, _⟩ := h.get i _ hi
  have hX' : (Kd.int .u8).R 5 W base S (.slice A n c) l := hX
  have hl := (RC hX').1
  obtain ⟨g, cap, he, _⟩ := Kd.R_form hX' (by omega)
  injection he with h1 h2 h3
  exact ⟨g, h1⟩
end Go.Proofs.Ytkeekganabafbaa.X
end
section
namespace Go.Proofs.Ytkeekganabafbaa.Pure
set_option linter.unusedVariables false
set_option linter.unusedSimpArgs false
open Go.RowKit Go.Proofs.Ytkeekganabafbaa.X Go.Proofs.YtkeekganabafbaaW.PrintWords Go.Proofs.YtkeekganabafbaaW.PrintLast Go.Proofs.YtkeekganabafbaaW.PrintMore
theorem taken_ev (l : List Int) (hB : BI l) (hn : l.length < 225179981368000) : Ev (fun k => varnum_TakeNum.f k l) (takeI l) := by
  unfold varnum_TakeNum.f takeI
  refine Ev.bind (f := fun k t => _) (take_ev l hB) ?_
  rcases tk_spec l with ⟨n, s, h1, h2, h3, h4, _⟩ | h1 | h1
  · rw [h1]
    refine ev_pos rfl ?_
    rw [if_pos rfl]
    refine ev_pos (show (0 : Int) ≤ (s : Int) by omega) (ev_pos (show (s : Int) ≤ (l.length : Int) by omega) ?_)
    exact ev_some (f := fun k t => _) (clone_some _ (by rw [List.length_drop]; omega)) (Ev.now _)
  · rw [h1]
    refine ev_neg (by decide) ?_
    rw [if_neg (by decide)]
    exact Ev.now _
  rw [h1]
  refine ev_neg (by decide) ?_
  rw [if_neg (by decide)]
  exact Ev.now _
end Go.Proofs.Ytkeekganabafbaa.Pure
namespace Go.Proofs.Ytkeekganabafbaa.X
open Go.RowKit Go.Proofs.YtkeekganabafbaaW.PrintWords Go.Proofs.YtkeekganabafbaaW.PrintLast Go.Proofs.YtkeekganabafbaaW.PrintMore Go.Proofs.Ytkeekganabafbaa.Pure
attribute [local go_sem] max2_int min2_int max_two min_two max_three min_three max_four min_four
set_option linter.unusedVariables false
set_option linter.unusedSimpArgs false
def RB (w : World) (g : Nat) (l : List Int) (bad : Bool) : Prop := ∃ A c, w.heap[g]? = some (.cells #[.slice A l.length c, .bool bad] 98 (0, 0)) ∧ l.length ≤ c ∧ CB w A l.length l
def RBo (w : World) (b : Nat) (g : Nat) (l : List Int) (bad : Bool) : Prop := ∃ A c, w.heap[g]? = some (.cells #[.slice A l.length c, .bool bad] 98 (0, 0)) ∧ (Kd.int .u8).R 5 w b (fun q => q ≠ g) (.slice A l.length c) l
theorem RBo.rb {w : World} {b g : Nat} {l : List Int} {bad : Bool} (h : RBo w b g l bad) : RB w g l bad := by
  obtain ⟨A, c, h1, h2⟩ := h
  exact ⟨A, c, h1, (Kd.R_reads' h2).2.1, (Kd.R_reads' h2).2.2⟩
def KB (w w' : World) (g : Nat) : Prop := KeepBut w w' g none ∧ w'.os = w.os ∧ w'.tape = w.tape ∧ w'.output = w.output
theorem KB.refl (w : World) (g : Nat) : KB w w g := ⟨KeepBut.refl _ _ _, rfl, rfl, rfl⟩
theorem KB.of_below {w w' : World} (h : Below w.heap.size w w') (g : Nat) : KB w w' g := ⟨KeepBut.of_below h g none, h.os, h.tape, h.output⟩
theorem KB.trans {w w1 w2 : World} {g : Nat} (h : KB w w1 g) (k : KB w1 w2 g) : KB w w2 g := ⟨h.1.trans k.1 (.inl rfl), k.2.1.trans h.2.1, k.2.2.1.trans h.2.2.1, k.2.2.2.trans h.2.2.2⟩
theorem KB.set (w : World) (g j : Nat) (u : Value) : KB w (w.setCell ⟨g, j, none⟩ u) g := ⟨(KeepBut.refl w g none).set_ j u, rfl, rfl, rfl⟩
theorem KB.far {w W : World} {g : Nat} (h : KB w W g) {p : Addr} (hp : w.heap.size ≤ p.block) (u : Value) : KB w (W.setCell p u) g := ⟨keep_far h.1 hp u, h.2.1, h.2.2.1, h.2.2.2⟩
theorem keep_below {w W W' : World} {g : Nat} (h : Below w.heap.size w W) (hk : KB W W' g) (hg : w.heap.size ≤ g) : Below w.heap.size w W' := ⟨hk.2.1.trans h.os, hk.2.2.1.trans h.tape, hk.2.2.2.trans h.output, Nat.le_trans h.size hk.1.1, fun i hi => (hk.1.2 i (Nat.lt_of_lt_of_le hi h.size) (by omega) (by simp)).trans (h.block i hi)⟩
set_option maxHeartbeats 8000000 in
set_option maxRecDepth 100000 in
theorem num_calls (g : Nat) (l : List Int) (bad : Bool) (w : World) (hr : RB w g l bad) (hB : BI l) (hl : l.length < 225179981368000) (n e : Int) (r : List Int) (hx : takeI l = (n, r, e)) :
    Calls Try.prog 59 #[.pointer (some ⟨g, 0, none⟩)] w fun e' w' => e' = .returned (.int .i64 n) ∧ RBo w' w.heap.size g r (bad || (e != 0)) ∧ KB w w' g := by
  obtain ⟨A, c, hblk, hc, hC⟩ := hr
  obtain ⟨k, hk⟩ := (taken_ev l hB hl).rounds
  rw [hx] at hk
  have k0 : w.cell? ⟨g, 0, none⟩ = some (.slice A l.length c) := blk_cell hblk 0
  cases bad
  all_goals
    by_cases he : e = 0
    all_goals
      have hne : (e != 0) = (decide (¬ e = 0)) := by first | (subst he; rfl) | (rw [decide_eq_true he]; exact bne_iff_ne.mpr he)
      first | rw [decide_eq_true he] at hne | rw [decide_eq_false (fun h => h he)] at hne
      have HE := Aside0.mk he
      clear he
      go_enter Try.func59, Try.ntmps59
      go_wp2_with (first | (go_at_call 79; refine (varnum_TakeNum.calls k A c l n r e _ hC hc hk).mono ?_; rintro e' w1 ⟨v1, rfl, hR1, hb1⟩; obtain ⟨A1, c1, e1⟩ := Kd.R_slice hR1; subst e1; have hblk1 := blk_below hblk hb1; have k1 := (blk_cell hblk1 1).trans (show _ = some (Value.bool _) from rfl); have k2 := (blk_cell hblk1 0).trans (show _ = some (Value.slice A l.length c) from rfl); have f0 := blk_frozen hblk1 0; have f1 := blk_frozen hblk1 1))
      go_ret
      rw [hne]
      refine ⟨rfl, ⟨A1, c1, blk_put (blk_put hblk1 0 _ rfl) 1 _ rfl, ?_⟩, ?_⟩
      · exact Kd.R_far (p := ⟨g, 1, none⟩) (Kd.R_far (p := ⟨g, 0, none⟩) (Kd.R_mono (Kd.R_bound hR1) (ok' := fun q => q ≠ g) (fun q hq => by have h1 := hq.2.1; have h2 := blk_lt hblk; omega)) (fun q hq => hq) _) (fun q hq => hq) _
      exact ((KB.of_below hb1 g).trans (KB.set _ _ _ _)).trans (KB.set _ _ _ _)
set_option maxHeartbeats 8000000 in
theorem less_calls (g : Nat) (l : List Int) (bad : Bool) (w : World) (hr : RB w g l bad) (hB : BI l) (hl : l.length < 225179981368000) (n e : Int) (r : List Int) (hx : takeI l = (n, r, e)) (hn : 0 ≤ n ∧ n ≤ 9007199254740991) :
    Calls Try.prog 61 #[.pointer (some ⟨g, 0, none⟩)] w fun e' w' => e' = .returned (.int .i64 (n - 1)) ∧ RBo w' w.heap.size g r (bad || (e != 0)) ∧ KB w w' g := by
  have hw : IntKind.i64.wrap (n - 1) = n - 1 := by simp only [i64_w]; unfold wrap64; omega
  go_enter Try.func61, Try.ntmps61
  go_wp2_with (first | (go_at_call 59; refine (num_calls g l bad _ hr hB hl n e r hx).mono ?_; rintro e' w1 ⟨rfl, hr1, hk1⟩))
  go_ret
  exact ⟨rfl, hr1, hk1⟩
end Go.Proofs.Ytkeekganabafbaa.X
end
section
namespace Go.Proofs.Ytkeekganabafbaa.X
open Go.RowKit Go.Proofs.YtkeekganabafbaaW.PrintWords Go.Proofs.YtkeekganabafbaaW.PrintLast Go.Proofs.YtkeekganabafbaaW.PrintMore Go.Proofs.Ytkeekganabafbaa.Pure
set_option linter.unusedVariables false
set_option linter.unusedSimpArgs false
theorem zip_mem_l {α β : Type} : ∀ (xs : List α) (ys : List β), ys.length = xs.length → ∀ x ∈ xs, ∃ y ∈ ys, (x, y) ∈ xs.zip ys
  | [], _, _, x, hx => by cases hx
  | a :: xs, [], h, _, _ => by simp at h
  | a :: xs, b :: ys, h, x, hx => by
    rcases List.mem_cons.1 hx with rfl | hx
    · exact ⟨b, by simp, by simp⟩
    obtain ⟨y, h1, h2⟩ := zip_mem_l xs ys (by simpa using h) x hx
    exact ⟨y, by simp [h1], by simp [h2]⟩
theorem zip_mem_r {α β : Type} : ∀ (xs : List α) (ys : List β), ys.length = xs.length → ∀ y ∈ ys, ∃ x ∈ xs, (x, y) ∈ xs.zip ys
  | xs, [], _, y, hy => by cases hy
  | [], b :: ys, h, _, _ => by simp at h
  | a :: xs, b :: ys, h, y, hy => by
    rcases List.mem_cons.1 hy with rfl | hy
    · exact ⟨a, by simp, by simp⟩
    obtain ⟨x, h1, h2⟩ := zip_mem_r xs ys (by simpa using h) y hy
    exact ⟨x, by simp [h1], by simp [h2]⟩
theorem flat_len {α : Type} (m : Nat) : ∀ (l : List (List α)), (∀ r ∈ l, r.length ≤ m) → l.flatten.length ≤ l.length * m
  | [], _ => by simp
  | r :: l, h => by
    rw [List.flatten_cons, List.length_append, List.length_cons]
    have h1 := h r (by simp)
    have h2 := flat_len m l (fun x hx => h x (by simp [hx]))
    rw [Nat.add_mul, Nat.one_mul]
    omega
structure DfaParts (T : Tab) : Prop where
  n1 : 1 ≤ T.next.length
  n2 : T.next.length ≤ 512
  u : T.rule.length = T.next.length
  w1 : 1 ≤ (rd_L4 T.next 0).length
  row : ∀ r ∈ T.next, r.length = (rd_L4 T.next 0).length ∧ r.length ≤ 256 ∧ ∀ y ∈ r, -1 ≤ y ∧ y < (T.next.length : Int)
  rule : ∀ k ∈ T.rule, -1 ≤ k ∧ k < 64
  cls : ∀ k ∈ T.cls, 0 ≤ k ∧ k < ((rd_L4 T.next 0).length : Int)
theorem dfa_parts {T : Tab} (h : dfaB T = true) : DfaParts T := by
  unfold dfaB dfaA dfaE dfaC dfaD at h
  simp only [Bool.and_eq_true, Bool.not_eq_true', Bool.or_eq_false_iff, decide_eq_false_iff_not] at h
  obtain ⟨⟨⟨⟨⟨a1, a2⟩, a3⟩, ⟨⟨b1, b2⟩, b3⟩⟩, c⟩, d⟩ := h
  have hu : T.rule.length = T.next.length := Decidable.not_not.1 b2
  have hrow : ∀ x ∈ T.next.zip T.rule, dfaRow T x = true := List.all_eq_true.1 d
  refine ⟨by omega, by omega, hu, by omega, fun r hr => ?_, fun k hk => ?_, fun k hk => ?_⟩
  · obtain ⟨k, _, hz⟩ := zip_mem_l T.next T.rule hu r hr
    have h1 := hrow _ hz
    unfold dfaRow at h1
    simp only [Bool.and_eq_true, decide_eq_true_eq] at h1
    refine ⟨h1.1.1.1, ?_, fun y hy => ?_⟩
    · have := List.any_eq_false.1 a3 r hr
      rw [decide_eq_true_eq] at this
      omega
    have h2 := List.all_eq_true.1 h1.2 y hy
    unfold dfaTo at h2
    simp only [Bool.and_eq_true, decide_eq_true_eq] at h2
    exact h2
  · obtain ⟨r, _, hz⟩ := zip_mem_r T.next T.rule hu k hk
    have h1 := hrow _ hz
    unfold dfaRow at h1
    simp only [Bool.and_eq_true, decide_eq_true_eq] at h1
    exact ⟨h1.1.1.2, h1.1.2⟩
  have h1 := List.all_eq_true.1 c k hk
  unfold dfaPC at h1
  simp only [Bool.and_eq_true, decide_eq_true_eq] at h1
  exact h1
theorem fits_next {T : Tab} (D : DfaParts T) : fits 1 T.next.flatten ∧ T.next.flatten.length ≤ 131072 := by
  constructor
  · intro x hx
    obtain ⟨r, hr, hx⟩ := List.mem_flatten.1 hx
    have := (D.row r hr).2.2 x hx
    have := D.n2
    omega
  have h1 := flat_len 256 T.next (fun r hr => (D.row r hr).2.1)
  have := D.n2
  omega
theorem fits_rule {T : Tab} (D : DfaParts T) : fits 1 T.rule := fun x hx => by have := D.rule x hx; omega
theorem fits_terms {T : Tab} (h : mayT T = true) (h2 : tN T ≤ 48) : fits 0 T.terms := fun x hx => by
  unfold mayT at h
  rw [Bool.not_eq_true'] at h
  have h1 := List.any_eq_false.1 h x hx
  simp only [Bool.or_eq_true, decide_eq_true_eq, not_or] at h1
  omega
theorem fits_goto {T : Tab} (h : mayR T = true) (hg : T.goto.length = T.action.length) (hs : T.action.length ≤ 512) (hn : nN T ≤ 48) : fits 1 T.goto.flatten ∧ T.goto.flatten.length ≤ 24576 := by
  have hrow : ∀ r ∈ T.goto, r.length = nN T ∧ ∀ x ∈ r, -1 ≤ x ∧ x < (T.action.length : Int) := by
    intro r hr
    obtain ⟨a, _, hz⟩ := zip_mem_r T.action T.goto hg r hr
    have h1 := List.all_eq_true.1 (show (T.action.zip T.goto).all (mayRow T) = true from h) _ hz
    unfold mayRow at h1
    simp only [Bool.and_eq_true, decide_eq_true_eq, Bool.not_eq_true'] at h1
    refine ⟨h1.1.1.2, fun x hx => ?_⟩
    have h2 := List.any_eq_false.1 h1.2 x hx
    simp only [Bool.or_eq_true, decide_eq_true_eq, not_or] at h2
    omega
  constructor
  · intro x hx
    obtain ⟨r, hr, hx⟩ := List.mem_flatten.1 hx
    have := (hrow r hr).2 x hx
    omega
  have h1 := flat_len 48 T.goto (fun r hr => by have := (hrow r hr).1; omega)
  omega
theorem fits_dims {T : Tab} (D : DfaParts T) (h1 : T.terms.length ≤ 64) (h2 : T.action.length ≤ 512) (h3 : tN T ≤ 48) (h4 : nN T ≤ 48) (h5 : T.left.length ≤ 128) : fits 0 (dimsL T) := by
  have e1 := D.n2
  have e3 : (rd_L4 T.next 0).length ≤ 256 := by
    have e2 := D.n1
    have hj : (0 : Int).toNat < T.next.length := by show 0 < T.next.length; omega
    have := (D.row (T.next[(0 : Int).toNat]) (List.getElem_mem hj)).2.1
    unfold rd_L4
    rw [List.getD_eq_getElem?_getD, List.getElem?_eq_getElem hj]
    exact this
  intro x hx
  unfold dimsL at hx
  simp only [List.mem_cons, List.not_mem_nil, or_false] at hx
  rcases hx with h | h | h | h | h | h | h <;> subst h <;> omega
theorem concat_n (l : List (List Int)) (A : Option Addr) (n c : Nat) (w : World) (hn : l.length = n) (h1 : n ≤ 1048576) (h2 : l.flatten.length ≤ 1048576) (hC : Kd.C (Kd.slice 3 (Kd.int .i64)) w A n l) (hc : n ≤ c) :
    Calls Try.prog 25 #[.slice A n c] w fun e w' => ∃ v, e = .returned v ∧ (Kd.int .i64).R 3 w' w.heap.size (fun _ => True) v l.flatten ∧ Below w.heap.size w w' := by
  subst hn
  obtain ⟨k, hk⟩ := (concatZ_ev l h1 h2).rounds
  exact slices_Concat_int_int.calls k A c l _ w hC hc hk
end Go.Proofs.Ytkeekganabafbaa.X
end
section
namespace Go.Proofs.Ytkeekganabafbaa.X
open Go.RowKit Go.Proofs.YtkeekganabafbaaW.PrintWords Go.Proofs.YtkeekganabafbaaW.PrintLast Go.Proofs.YtkeekganabafbaaW.PrintMore Go.Proofs.Ytkeekganabafbaa.Pure
set_option linter.unusedVariables false
set_option linter.unusedSimpArgs false
structure MayParts (T : Tab) : Prop where
  dfa : dfaB T = true
  s1 : 1 ≤ T.action.length
  s2 : T.action.length ≤ 512
  g : T.goto.length = T.action.length
  p1 : 1 ≤ T.left.length
  p2 : T.left.length ≤ 128
  z : T.size.length = T.left.length
  t : T.terms.length ≤ 64
  t1 : 1 ≤ tN T
  t2 : tN T ≤ 48
  n1 : 2 ≤ nN T
  n2 : nN T ≤ 48
  mt : mayT T = true
  mu : mayU T = true
  mr : mayR T = true
  mp : mayP T = true
  ms : mayS T = true
theorem may_parts {T : Tab} (h : mayB T = true) : MayParts T := by
  unfold mayB mayA mayN at h
  simp only [Bool.and_eq_true, decide_eq_true_eq] at h
  obtain ⟨⟨⟨⟨⟨⟨⟨⟨⟨⟨⟨⟨⟨a1, a2⟩, a3⟩, a4⟩, a5⟩, a6⟩, a7⟩, a8⟩, ⟨⟨⟨b1, b2⟩, b3⟩, b4⟩⟩, c1⟩, c2⟩, c3⟩, c4⟩, c5⟩ := h
  exact ⟨a1, a2, a3, a4, a5, a6, a7, a8, b1, b2, b3, b4, c1, c2, c3, c4, c5⟩
theorem acts_mem (s p : Int) (x : S38) : ∀ (l : List S38) (k : Int), actsOk s p k l = true → x ∈ l → ∃ k', actOk x k' s p = true
  | [], _, _, hx => by cases hx
  | a :: l, k, h, hx => by
    unfold actsOk at h
    rw [Bool.and_eq_true] at h
    rcases List.mem_cons.1 hx with rfl | hx
    · exact ⟨k, h.1⟩
    exact acts_mem s p x l (k + 1) h.2 hx
theorem zip_mem_left {α β : Type} : ∀ (xs : List α) (ys : List β), ys.length = xs.length → ∀ x ∈ xs, ∃ y ∈ ys, (x, y) ∈ xs.zip ys
  | [], _, _, x, hx => by cases hx
  | a :: xs, [], h, _, _ => by simp at h
  | a :: xs, b :: ys, h, x, hx => by
    rcases List.mem_cons.1 hx with rfl | hx
    · exact ⟨b, by simp, by simp⟩
    obtain ⟨y, h1, h2⟩ := zip_mem_left xs ys (by simpa using h) x hx
    exact ⟨y, by simp [h1], by simp [h2]⟩
theorem may_code {T : Tab} (M : MayParts T) (x : S38) (row : List S38) (hr : row ∈ T.action) (hx : x ∈ row) : 0 ≤ codeI x ∧ codeI x ≤ 1027 := by
  obtain ⟨grow, _, hz⟩ := zip_mem_left T.action T.goto M.g row hr
  have h1 := List.all_eq_true.1 (show (T.action.zip T.goto).all (mayRow T) = true from M.mr) _ hz
  unfold mayRow at h1
  simp only [Bool.and_eq_true, decide_eq_true_eq] at h1
  obtain ⟨k', hk⟩ := acts_mem _ _ x row 0 h1.1.2 hx
  exact code_range x k' _ _ (by have := M.s2; omega) (by have := M.p2; omega) hk
theorem may_row {T : Tab} (M : MayParts T) (row : List S38) (hr : row ∈ T.action) : row.length = tN T := by
  obtain ⟨grow, _, hz⟩ := zip_mem_left T.action T.goto M.g row hr
  have h1 := List.all_eq_true.1 (show (T.action.zip T.goto).all (mayRow T) = true from M.mr) _ hz
  unfold mayRow at h1
  simp only [Bool.and_eq_true, decide_eq_true_eq] at h1
  exact h1.1.1.1
theorem prods_mem (n : Int) (x : Int × Int) : ∀ (l : List (Int × Int)) (k : Int), prodsOk n k l = true → x ∈ l → ∃ k', prodOk n k' x = true
  | [], _, _, hx => by cases hx
  | a :: l, k, h, hx => by
    unfold prodsOk at h
    rw [Bool.and_eq_true] at h
    rcases List.mem_cons.1 hx with rfl | hx
    · exact ⟨k, h.1⟩
    exact prods_mem n x l (k + 1) h.2 hx
theorem may_prod {T : Tab} (M : MayParts T) (x : Int × Int) (hx : x ∈ T.left.zip T.size) : 0 ≤ x.1 ∧ x.1 < 48 ∧ 0 ≤ x.2 ∧ x.2 ≤ 12 := by
  obtain ⟨k', hk⟩ := prods_mem _ x _ 0 (show prodsOk (nN T) 0 (T.left.zip T.size) = true from M.mp) hx
  unfold prodOk at hk
  simp only [Bool.and_eq_true, decide_eq_true_eq] at hk
  have := M.n2
  exact ⟨hk.1.1.1.1, by have := hk.1.1.1.2; omega, hk.1.2, hk.2⟩
end Go.Proofs.Ytkeekganabafbaa.X
end
section
namespace Go.Proofs.Ytkeekganabafbaa.Pure
set_option linter.unusedVariables false
set_option linter.unusedSimpArgs false
open Go.RowKit Go.Proofs.Ytkeekganabafbaa.X Go.Proofs.YtkeekganabafbaaW.PrintWords Go.Proofs.YtkeekganabafbaaW.PrintLast Go.Proofs.YtkeekganabafbaaW.PrintMore
def digits : Nat → Nat → List Nat
  | _, 0 => []
  | n, m + 1 => n % 256 :: digits (n / 256) m
theorem digits_length (n m : Nat) : (digits n m).length = m := by
  induction m generalizing n with
  | zero => rfl
  | succ m ih => simp [digits, ih]
theorem digits_B (n m : Nat) : Crc.B (digits n m) := by
  induction m generalizing n with
  | zero => intro c hc; cases hc
  | succ m ih =>
    intro c hc
    rcases List.mem_cons.1 hc with rfl | hc
    · exact Nat.mod_lt _ (by omega)
    exact ih _ c hc
theorem word_digits (n m : Nat) : Crc.word (digits n m) = n % 2 ^ (8 * m) := by
  induction m generalizing n with
  | zero => simp [digits, Crc.word, Nat.mod_one]
  | succ m ih =>
    rw [digits, Crc.word, ih, show 2 ^ (8 * (m + 1)) = 256 * 2 ^ (8 * m) by rw [show 8 * (m + 1) = 8 + 8 * m by omega, Nat.pow_add], Nat.mod_mul]
def layN : Nat → List Nat → List Nat
  | _, [] => []
  | n, c :: l => (c ^^^ n % 256) :: layN (n / 256) l
theorem layN_lay (n : Nat) (l : List Nat) : layN n l = Crc.lay (digits n l.length) l := by
  induction l generalizing n with
  | nil => rfl
  | cons c l ih => simp only [layN, List.length_cons, digits, Crc.lay, ih]
theorem layN_none (n : Nat) (l : List Nat) (h : n % 2 ^ (8 * l.length) = 0) : layN n l = l := by
  induction l generalizing n with
  | nil => rfl
  | cons c l ih =>
    rw [List.length_cons, show 2 ^ (8 * (l.length + 1)) = 256 * 2 ^ (8 * l.length) by rw [show 8 * (l.length + 1) = 8 + 8 * l.length by omega, Nat.pow_add], Nat.mod_mul] at h
    have h1 : n % 256 = 0 := by omega
    have h2 : n / 256 % 2 ^ (8 * l.length) = 0 := by omega
    rw [layN, ih _ h2, h1, Nat.xor_zero]
theorem burst_iff (s : Nat) (p l : List Nat) (hp : Crc.B p) (hl : Crc.B l) (hs : s < 4294967296) (n k : Nat) (hn : n < 4294967296) (hk : k < 8) (hm : 0 < l.length) :
    Crc.on s (p ++ layN (n * 2 ^ k) l) = Crc.on s (p ++ l) ↔ p ++ layN (n * 2 ^ k) l = p ++ l := by
  constructor
  · intro h
    have h1 : Crc.run (4294967295 ^^^ s) (p ++ layN (n * 2 ^ k) l) = Crc.run (4294967295 ^^^ s) (p ++ l) := by
      have := congrArg (fun z => 4294967295 ^^^ z) h
      simpa only [Crc.on, Crc.not_not] using this
    rw [Crc.run_append, Crc.run_append] at h1
    generalize Crc.run (4294967295 ^^^ s) p = r at h1
    have h2 := Crc.run_lay (digits (n * 2 ^ k) l.length) l r 0 (digits_length _ _)
    rw [Nat.xor_zero, ← layN_lay, h1, Crc.run_word _ (digits_B _ _), digits_length, Nat.zero_xor, word_digits] at h2
    have h3 : Crc.tn (8 * l.length) ((n * 2 ^ k) % 2 ^ (8 * l.length)) = 0 := by
      have := congrArg (fun z => Crc.run r l ^^^ z) h2
      simpa [← Nat.xor_assoc] using this.symm
    rw [layN_none _ _ (Crc.word_burst n k l.length hn hk hm h3)]
  intro h; rw [h]
def layI : Nat → List Int → List Int
  | _, [] => []
  | n, c :: l => Go.bits .xor .u8 c (((n % 256 : Nat)) : Int) :: layI (n / 256) l
theorem xor_byte (c : Int) (h0 : 0 ≤ c) (h1 : c < 256) (n : Nat) (hn : n < 256) : Go.bits .xor .u8 c (n : Int) = ((c.toNat ^^^ n : Nat) : Int) := by
  obtain ⟨d, rfl⟩ := Int.eq_ofNat_of_zero_le h0
  exact u8_xor_nat d n (by omega) hn
theorem nat_layI (n : Nat) (l : List Int) (hl : BI l) : nat (layI n l) = layN n (nat l) := by
  induction l generalizing n with
  | nil => rfl
  | cons c l ih =>
    have hc := hl c (by simp)
    have := ih (n / 256) (fun x hx => hl x (by simp [hx]))
    simp only [layI, nat, List.map_cons, layN] at this ⊢
    rw [this, xor_byte c hc.1 hc.2 _ (by omega), Int.toNat_natCast]
theorem layI_BI (n : Nat) (l : List Int) (hl : BI l) : BI (layI n l) := by
  induction l generalizing n with
  | nil => exact hl
  | cons c l ih =>
    have hc := hl c (by simp)
    refine BI_cons ?_ ?_ (ih _ (fun x hx => hl x (by simp [hx])))
    · rw [xor_byte c hc.1 hc.2 _ (by omega)]; omega
    rw [xor_byte c hc.1 hc.2 _ (by omega)]
    have : c.toNat ^^^ n % 256 < 256 := Nat.xor_lt_two_pow (n := 8) (by omega) (by omega)
    omega
theorem layI_length (n : Nat) (l : List Int) : (layI n l).length = l.length := by
  induction l generalizing n with
  | nil => rfl
  | cons c l ih => simp [layI, ih]
theorem nat_inj (a b : List Int) (ha : BI a) (hb : BI b) (h : nat a = nat b) : a = b := by
  induction a generalizing b with
  | nil => cases b with
    | nil => rfl
    | cons y b => simp [nat] at h
  | cons x a ih => cases b with
    | nil => simp [nat] at h
    | cons y b =>
      simp only [nat, List.map_cons, List.cons.injEq] at h
      have hx := ha x (by simp)
      have hy := hb y (by simp)
      rw [ih b (fun z hz => ha z (by simp [hz])) (fun z hz => hb z (by simp [hz])) h.2]
      congr 1
      omega
theorem layI_zero (l : List Int) (hl : BI l) : layI 0 l = l := nat_inj _ _ (layI_BI 0 l hl) hl (by rw [nat_layI 0 l hl, layN_none _ _ (by simp)])
theorem layI_xor (l : List Int) : ∀ (a b : Nat), BI l → layI (a ^^^ b) l = layI a (layI b l) := by
  induction l with
  | nil => intro a b _; rfl
  | cons c l ih =>
    intro a b hl
    have hc := hl c (by simp)
    have hl2 : BI l := fun x hx => hl x (by simp [hx])
    have e1 : (a ^^^ b) % 256 = a % 256 ^^^ b % 256 := by
      have := Nat.xor_mod_two_pow (a := a) (b := b) (n := 8)
      simpa using this
    have e2 : (a ^^^ b) / 256 = a / 256 ^^^ b / 256 := by
      have := Nat.shiftRight_xor_distrib (a := a) (b := b) (i := 8)
      simpa [Nat.shiftRight_eq_div_pow] using this
    have hb : c.toNat ^^^ b % 256 < 256 := Nat.xor_lt_two_pow (n := 8) (by omega) (by omega)
    have hab : a % 256 ^^^ b % 256 < 256 := Nat.xor_lt_two_pow (n := 8) (by omega) (by omega)
    show Go.bits .xor .u8 c (((a ^^^ b) % 256 : Nat) : Int) :: layI ((a ^^^ b) / 256) l = Go.bits .xor .u8 (Go.bits .xor .u8 c ((b % 256 : Nat) : Int)) ((a % 256 : Nat) : Int) :: layI (a / 256) (layI (b / 256) l)
    rw [e2, ih _ _ hl2, e1, xor_byte c hc.1 hc.2 _ hab, xor_byte c hc.1 hc.2 (b % 256) (by omega), xor_byte _ (by omega) (by omega) (a % 256) (by omega), Int.toNat_natCast]
    congr 2
    rw [Nat.xor_assoc, Nat.xor_comm (b % 256)]
theorem pow_mod_small (j : Nat) (h : j < 8) : 2 ^ j % 256 = 2 ^ j ∧ 2 ^ j / 256 = 0 := by
  have h : 2 ^ j ≤ 2 ^ 7 := Nat.pow_le_pow_right (by omega) (by omega)
  exact ⟨Nat.mod_eq_of_lt (by omega), Nat.div_eq_of_lt (by omega)⟩
theorem pow_mod_big (j : Nat) (h : 8 ≤ j) : 2 ^ j % 256 = 0 ∧ 2 ^ j / 256 = 2 ^ (j - 8) := by
  have e : 2 ^ j = 2 ^ (j - 8) * 256 := by rw [show 2 ^ (j - 8) * 256 = 2 ^ (j - 8) * 2 ^ 8 from rfl, ← Nat.pow_add]; congr 1; omega
  rw [e]
  exact ⟨Nat.mul_mod_left _ _, Nat.mul_div_cancel _ (by decide)⟩
theorem layI_pow (l : List Int) : ∀ j : Nat, BI l → j / 8 < l.length → layI (2 ^ j) l = l.set (j / 8) (Go.bits .xor .u8 (rd l ((j / 8 : Nat) : Int)) ((2 ^ (j % 8) : Nat) : Int)) := by
  induction l with
  | nil => intro j _ h; simp at h
  | cons c l ih =>
    intro j hl hj
    have hc := hl c (by simp)
    have hl2 : BI l := fun x hx => hl x (by simp [hx])
    show Go.bits .xor .u8 c ((2 ^ j % 256 : Nat) : Int) :: layI (2 ^ j / 256) l = _
    by_cases h8 : j < 8
    · obtain ⟨e1, e2⟩ := pow_mod_small j h8
      rw [e1, e2, layI_zero l hl2, show j / 8 = 0 by omega, show j % 8 = j by omega]
      rfl
    obtain ⟨e1, e2⟩ := pow_mod_big j (by omega)
    simp only [List.length_cons] at hj
    rw [e1, e2, ih (j - 8) hl2 (by omega), show j / 8 = (j - 8) / 8 + 1 by omega, show j % 8 = (j - 8) % 8 by omega]
    rw [List.set_cons_succ]
    have e3 : Go.bits .xor .u8 c ((0 : Nat) : Int) = c := by rw [xor_byte c hc.1 hc.2 0 (by omega), Nat.xor_zero]; omega
    have e4 : rd (c :: l) (((j - 8) / 8 + 1 : Nat) : Int) = rd l (((j - 8) / 8 : Nat) : Int) := by
      rw [rd_at l _ (by omega), rd_at (c :: l) _ (by simp; omega)]
      rfl
    rw [e3, e4]
theorem layI_self (l : List Int) : ∀ m : Nat, BI l → m < 2 ^ (8 * l.length) → layI m l = l → m = 0 := by
  induction l with
  | nil => intro m _ h _; simpa using h
  | cons c l ih =>
    intro m hl h e
    have hc := hl c (by simp)
    have hl2 : BI l := fun x hx => hl x (by simp [hx])
    have e' : Go.bits .xor .u8 c ((m % 256 : Nat) : Int) :: layI (m / 256) l = c :: l := e
    simp only [List.cons.injEq] at e'
    have h2 : m / 256 < 2 ^ (8 * l.length) := by
      rw [List.length_cons, Nat.mul_add, Nat.pow_add] at h
      exact Nat.div_lt_of_lt_mul (by rw [Nat.mul_comm]; exact h)
    have h3 := ih (m / 256) hl2 h2 e'.2
    have h4 := e'.1
    rw [xor_byte c hc.1 hc.2 _ (by omega)] at h4
    have h5 : c.toNat ^^^ m % 256 = c.toNat := by omega
    have h6 := congrArg (fun z => c.toNat ^^^ z) h5
    simp only [← Nat.xor_assoc, Nat.xor_self, Nat.zero_xor] at h6
    omega
theorem mod_succ_bit (n i : Nat) : n % 2 ^ (i + 1) = if n / 2 ^ i % 2 = 1 then (n % 2 ^ i) ^^^ 2 ^ i else n % 2 ^ i := by
  have h1 : n % 2 ^ (i + 1) = n % 2 ^ i + 2 ^ i * (n / 2 ^ i % 2) := by
    rw [Nat.pow_succ, Nat.mod_mul]
  have h2 : n % 2 ^ i < 2 ^ i := Nat.mod_lt _ (Nat.two_pow_pos i)
  by_cases h : n / 2 ^ i % 2 = 1
  · rw [if_pos h, h1, h, Nat.mul_one, Nat.xor_comm]
    have h3 := Nat.two_pow_add_eq_or_of_lt h2 1
    rw [Nat.mul_one] at h3
    rw [Nat.add_comm, h3]
    apply Nat.eq_of_testBit_eq
    intro j
    rw [Nat.testBit_or, Nat.testBit_xor, Nat.testBit_two_pow]
    by_cases hj : i = j
    · subst hj
      rw [Nat.testBit_lt_two_pow h2]
      simp
    simp [hj]
  rw [if_neg h, h1, show n / 2 ^ i % 2 = 0 by omega]; simp
theorem lay_succ (n i s : Nat) : (n % 2 ^ (i + 1)) * 2 ^ s = if n / 2 ^ i % 2 = 1 then 2 ^ (i + s) ^^^ ((n % 2 ^ i) * 2 ^ s) else (n % 2 ^ i) * 2 ^ s := by
  rw [mod_succ_bit]
  split
  · rw [Nat.xor_comm, ← Nat.shiftLeft_eq, Nat.shiftLeft_xor_distrib, Nat.shiftLeft_eq, Nat.shiftLeft_eq, ← Nat.pow_add]
  rfl
end Go.Proofs.Ytkeekganabafbaa.Pure
end
section
namespace Go.Proofs.Ytkeekganabafbaa.X
open Go.RowKit Go.Proofs.YtkeekganabafbaaW.PrintWords Go.Proofs.YtkeekganabafbaaW.PrintLast Go.Proofs.YtkeekganabafbaaW.PrintMore Go.Proofs.Ytkeekganabafbaa.Pure
set_option linter.unusedVariables false
set_option linter.unusedSimpArgs false
abbrev RS := List Int × Bool
def numR (s : RS) : Int × RS := ((takeI s.1).1, (takeI s.1).2.1, s.2 || ((takeI s.1).2.2 != 0))
def lessR (s : RS) : Int × RS := ((numR s).1 - 1, (numR s).2)
def actI (n : Int) : S38 := if n = 0 then ⟨0, 0⟩ else if n = 1 then ⟨3, 0⟩ else ⟨1 + n % 2, (n - 2) / 2⟩
def actR (s : RS) : S38 × RS := (actI (numR s).1, (numR s).2)
def pairR (s : RS) : (Int × Int) × RS := (((numR s).1, (numR (numR s).2).1), (numR (numR s).2).2)
def manyR {α : Type} (next : RS → α × RS) : Nat → RS → List α × RS
  | 0, s => ([], s)
  | n + 1, s => ((next s).1 :: (manyR next n (next s).2).1, (manyR next n (next s).2).2)
theorem manyR_length {α : Type} (next : RS → α × RS) : ∀ (n : Nat) (s : RS), (manyR next n s).1.length = n
  | 0, _ => rfl
  | n + 1, s => by rw [show manyR next (n + 1) s = ((next s).1 :: (manyR next n (next s).2).1, (manyR next n (next s).2).2) from rfl, List.length_cons, manyR_length next n]
theorem manyR_snoc {α : Type} (next : RS → α × RS) : ∀ (n : Nat) (s : RS), manyR next (n + 1) s = ((manyR next n s).1 ++ [(next (manyR next n s).2).1], (next (manyR next n s).2).2)
  | 0, s => rfl
  | n + 1, s => by
    rw [show manyR next (n + 1 + 1) s = ((next s).1 :: (manyR next (n + 1) (next s).2).1, (manyR next (n + 1) (next s).2).2) from rfl, manyR_snoc next n (next s).2]
    rfl
theorem takeI_enc (n : Nat) (r : List Int) (h : n ≤ 9007199254740991) : takeI (enc n ++ r) = ((n : Int), r, 0) := by
  rw [takeI_ok _ n (enc n).length (tk_enc n r h), List.drop_left]
theorem numR_enc (x : Int) (r : List Int) (h : 0 ≤ x ∧ x ≤ 9007199254740991) : numR (enc x.toNat ++ r, false) = (x, (r, false)) := by
  unfold numR
  rw [takeI_enc x.toNat r (by omega), Int.toNat_of_nonneg h.1]
  rfl
theorem numR_back (s : RS) (hB : BI s.1) (h : (numR s).2.2 = false) : s.2 = false ∧ s.1 = enc (numR s).1.toNat ++ (numR s).2.1 ∧ (0 ≤ (numR s).1 ∧ (numR s).1 ≤ 9007199254740991) ∧ BI (numR s).2.1 := by
  unfold numR at h ⊢
  dsimp only at h ⊢
  rw [Bool.or_eq_false_iff] at h
  have he : (takeI s.1).2.2 = 0 := by
    have := h.2
    rcases Decidable.em ((takeI s.1).2.2 = 0) with h1 | h1
    · exact h1
    rw [show ((takeI s.1).2.2 != 0) = true from bne_iff_ne.mpr h1] at this; cases this
  rcases tk_spec s.1 with ⟨n, t, h1, h2, h3, h4, _⟩ | h1 | h1
  · rw [takeI_ok _ n t h1]
    refine ⟨h.1, ?_, ⟨by dsimp only; omega, by dsimp only; omega⟩, BI_drop hB _⟩
    dsimp only
    rw [Int.toNat_natCast, enc_tk s.1 hB n t h1, List.take_append_drop]
  · rw [takeI_err _ 3 h1 (by decide)] at he; cases he
  rw [takeI_err _ 4 h1 (by decide)] at he; cases he
theorem numR_range (s : RS) : 0 ≤ (numR s).1 ∧ (numR s).1 ≤ 9007199254740991 ∧ (numR s).2.1.length ≤ s.1.length := takeI_range s.1
theorem many_fwd {α : Type} (next : RS → α × RS) (encA : α → List Int) : ∀ (xs : List α), (∀ a ∈ xs, ∀ r, next (encA a ++ r, false) = (a, (r, false))) → ∀ r, manyR next xs.length ((xs.map encA).flatten ++ r, false) = (xs, (r, false))
  | [], _, r => rfl
  | a :: xs, h, r => by
    rw [List.map_cons, List.flatten_cons, List.append_assoc, List.length_cons]
    rw [show ∀ s, manyR next (xs.length + 1) s = ((next s).1 :: (manyR next xs.length (next s).2).1, (manyR next xs.length (next s).2).2) from fun _ => rfl]
    rw [h a (by simp)]
    dsimp only
    rw [many_fwd next encA xs (fun b hb => h b (by simp [hb])) r]
theorem many_mono {α : Type} (next : RS → α × RS) (hm : ∀ s : RS, (next s).2.2 = false → s.2 = false) : ∀ (n : Nat) (s : RS), (manyR next n s).2.2 = false → s.2 = false
  | 0, _, h => h
  | n + 1, s, h => hm s (many_mono next hm n (next s).2 h)
theorem many_back {α : Type} (next : RS → α × RS) (hm : ∀ s : RS, (next s).2.2 = false → s.2 = false) (encA : α → List Int) (ok : α → Prop) (h : ∀ s : RS, BI s.1 → (next s).2.2 = false → s.1 = encA (next s).1 ++ (next s).2.1 ∧ ok (next s).1 ∧ BI (next s).2.1) :
    ∀ (n : Nat) (s : RS), BI s.1 → (manyR next n s).2.2 = false → s.1 = ((manyR next n s).1.map encA).flatten ++ (manyR next n s).2.1 ∧ (∀ a ∈ (manyR next n s).1, ok a) ∧ BI (manyR next n s).2.1
  | 0, s, hB, hs => ⟨rfl, (fun a ha => by cases ha), hB⟩
  | n + 1, s, hB, hs => by
    obtain ⟨h1, h2, h3⟩ := h s hB (many_mono next hm n (next s).2 hs)
    obtain ⟨g1, g2, g3⟩ := many_back next hm encA ok h n (next s).2 h3 hs
    rw [show manyR next (n + 1) s = ((next s).1 :: (manyR next n (next s).2).1, (manyR next n (next s).2).2) from rfl]
    dsimp only
    refine ⟨?_, fun a ha => ?_, g3⟩
    · rw [List.map_cons, List.flatten_cons, List.append_assoc, ← g1]; exact h1
    rcases List.mem_cons.1 ha with rfl | ha
    · exact h2
    exact g2 a ha
theorem numR_mono (s : RS) (h : (numR s).2.2 = false) : s.2 = false := by
  unfold numR at h
  exact (Bool.or_eq_false_iff.1 h).1
theorem pairR_mono (s : RS) (h : (pairR s).2.2 = false) : s.2 = false := numR_mono s (numR_mono _ h)
theorem fwd_num (xs : List Int) (h : fits 0 xs) (r : List Int) : manyR numR xs.length (numsL 0 xs ++ r, false) = (xs, (r, false)) :=
  many_fwd numR (fun x => enc (x + 0).toNat) xs (fun a ha r => by have := h a ha; rw [Int.add_zero]; exact numR_enc a r (by omega)) r
theorem lessR_enc (x : Int) (r : List Int) (h : 0 ≤ x + 1 ∧ x + 1 ≤ 9007199254740991) : lessR (enc (x + 1).toNat ++ r, false) = (x, (r, false)) := by
  unfold lessR
  rw [numR_enc (x + 1) r h]
  dsimp only
  rw [Int.add_sub_cancel]
theorem fwd_less (xs : List Int) (h : fits 1 xs) (r : List Int) : manyR lessR xs.length (numsL 1 xs ++ r, false) = (xs, (r, false)) :=
  many_fwd lessR (fun x => enc (x + 1).toNat) xs (fun a ha r => lessR_enc a r (h a ha)) r
theorem numsL_flatten (m : Int) : ∀ (xss : List (List Int)), numsL m xss.flatten = (xss.map (numsL m)).flatten
  | [] => rfl
  | xs :: xss => by rw [List.flatten_cons, numsL_append, numsL_flatten m xss, List.map_cons, List.flatten_cons]
theorem fwd_rows (xss : List (List Int)) (k : Nat) (hk : ∀ r ∈ xss, r.length = k) (h : fits 1 xss.flatten) (r : List Int) : manyR (manyR lessR k) xss.length (numsL 1 xss.flatten ++ r, false) = (xss, (r, false)) := by
  rw [numsL_flatten]
  refine many_fwd (manyR lessR k) (numsL 1) xss (fun a ha r => ?_) r
  rw [← hk a ha]
  exact fwd_less a (fun x hx => h x (List.mem_flatten.2 ⟨a, ha, hx⟩)) r
def codeOk (a : S38) : Prop := (0 ≤ codeI a ∧ codeI a ≤ 9007199254740991) ∧ actI (codeI a) = a
theorem actR_enc (a : S38) (r : List Int) (h : codeOk a) : actR (enc (codeI a + 0).toNat ++ r, false) = (a, (r, false)) := by
  unfold actR
  rw [Int.add_zero, numR_enc (codeI a) r h.1]
  dsimp only
  rw [h.2]
theorem map_encode (f : S38 → Int) (m : Int) (l : List S38) : numsL m (l.map f) = (l.map (fun a => enc (f a + m).toNat)).flatten := by
  unfold numsL
  rw [List.map_map]
  rfl
theorem fwd_acts (xs : List S38) (h : ∀ a ∈ xs, codeOk a) (r : List Int) : manyR actR xs.length (numsL 0 (xs.map codeI) ++ r, false) = (xs, (r, false)) := by
  rw [map_encode]
  exact many_fwd actR (fun a => enc (codeI a + 0).toNat) xs (fun a ha r => actR_enc a r (h a ha)) r
theorem codes_flatten : ∀ (xss : List (List S38)), numsL 0 (xss.flatten.map codeI) = (xss.map (fun r => numsL 0 (r.map codeI))).flatten
  | [] => rfl
  | xs :: xss => by rw [List.flatten_cons, List.map_append, numsL_append, codes_flatten xss, List.map_cons, List.flatten_cons]
theorem fwd_actrows (xss : List (List S38)) (k : Nat) (hk : ∀ r ∈ xss, r.length = k) (h : ∀ r ∈ xss, ∀ a ∈ r, codeOk a) (r : List Int) : manyR (manyR actR k) xss.length (numsL 0 (xss.flatten.map codeI) ++ r, false) = (xss, (r, false)) := by
  rw [codes_flatten]
  refine many_fwd (manyR actR k) (fun r => numsL 0 (r.map codeI)) xss (fun a ha r => ?_) r
  rw [← hk a ha]
  exact fwd_acts a (h a ha) r
theorem pairR_enc (x : Int × Int) (r : List Int) (h : (0 ≤ x.1 ∧ x.1 ≤ 9007199254740991) ∧ 0 ≤ x.2 ∧ x.2 ≤ 9007199254740991) : pairR (numsL 0 [x.1, x.2] ++ r, false) = (x, (r, false)) := by
  rw [numsL_cons, numsL_cons, show numsL 0 [] = [] from rfl, List.append_nil, List.append_assoc, Int.add_zero, Int.add_zero]
  unfold pairR
  rw [numR_enc x.1 _ h.1]
  dsimp only
  rw [numR_enc x.2 _ h.2]
theorem fwd_pairs (xs : List (Int × Int)) (h : ∀ x ∈ xs, (0 ≤ x.1 ∧ x.1 ≤ 9007199254740991) ∧ 0 ≤ x.2 ∧ x.2 ≤ 9007199254740991) (r : List Int) : manyR pairR xs.length (numsL 0 (xs.map (fun x => [x.1, x.2])).flatten ++ r, false) = (xs, (r, false)) := by
  rw [numsL_flatten, List.map_map]
  exact many_fwd pairR (fun x => numsL 0 [x.1, x.2]) xs (fun a ha r => pairR_enc a r (h a ha)) r
theorem back_num (n : Nat) (s : RS) (hB : BI s.1) (h : (manyR numR n s).2.2 = false) : s.1 = numsL 0 (manyR numR n s).1 ++ (manyR numR n s).2.1 ∧ ∀ x ∈ (manyR numR n s).1, 0 ≤ x ∧ x ≤ 9007199254740991 := by
  obtain ⟨h1, h2, _⟩ := many_back numR numR_mono (fun x => enc (x + 0).toNat) (fun x => 0 ≤ x ∧ x ≤ 9007199254740991) (fun s hB h => by
    obtain ⟨_, g2, g3, g4⟩ := numR_back s hB h
    exact ⟨by rw [Int.add_zero]; exact g2, g3, g4⟩) n s hB h
  exact ⟨h1, h2⟩
theorem lessR_back (s : RS) (hB : BI s.1) (h : (lessR s).2.2 = false) : s.1 = enc ((lessR s).1 + 1).toNat ++ (lessR s).2.1 ∧ True ∧ BI (lessR s).2.1 := by
  obtain ⟨_, g2, g3, g4⟩ := numR_back s hB h
  refine ⟨?_, trivial, g4⟩
  rw [show (lessR s).1 + 1 = (numR s).1 by unfold lessR; dsimp only; omega]
  exact g2
theorem back_less3 (n : Nat) (s : RS) (hB : BI s.1) (h : (manyR lessR n s).2.2 = false) : s.1 = numsL 1 (manyR lessR n s).1 ++ (manyR lessR n s).2.1 ∧ True ∧ BI (manyR lessR n s).2.1 := by
  obtain ⟨h1, _, h3⟩ := many_back lessR (fun s h => numR_mono s h) (fun x => enc (x + 1).toNat) (fun _ => True) lessR_back n s hB h
  exact ⟨h1, trivial, h3⟩
theorem back_rows (n k : Nat) (s : RS) (hB : BI s.1) (h : (manyR (manyR lessR k) n s).2.2 = false) : s.1 = numsL 1 (manyR (manyR lessR k) n s).1.flatten ++ (manyR (manyR lessR k) n s).2.1 := by
  obtain ⟨h1, _, h3⟩ := many_back (manyR lessR k) (fun s h => many_mono lessR (fun s h => numR_mono s h) k s h) (numsL 1) (fun _ => True) (back_less3 k) n s hB h
  rw [numsL_flatten]
  exact h1
theorem code_act (n : Int) (h : 0 ≤ n ∧ n ≤ 9007199254740991) : codeI (actI n) = n := by
  unfold codeI tables_code.f actI
  by_cases h0 : n = 0
  · rw [if_pos h0, if_neg (by decide), if_neg (by decide), if_neg (by decide), h0]; rfl
  rw [if_neg h0]
  by_cases h1 : n = 1
  · rw [if_pos h1, if_pos rfl, h1]; rfl
  rw [if_neg h1]
  rcases Int.emod_two_eq n with h2 | h2
  · rw [if_neg (by dsimp only; omega), if_pos (by dsimp only; omega)]
    show wrap64 (2 + wrap64 (2 * ((n - 2) / 2))) = n
    rw [w64 (x := 2 * ((n - 2) / 2)) (by omega) (by omega), w64 (by omega) (by omega)]
    omega
  rw [if_neg (by dsimp only; omega), if_neg (by dsimp only; omega), if_pos (by dsimp only; omega)]
  show wrap64 (3 + wrap64 (2 * ((n - 2) / 2))) = n
  rw [w64 (x := 2 * ((n - 2) / 2)) (by omega) (by omega), w64 (by omega) (by omega)]
  omega
theorem actR_back (s : RS) (hB : BI s.1) (h : (actR s).2.2 = false) : s.1 = enc (codeI (actR s).1 + 0).toNat ++ (actR s).2.1 ∧ True ∧ BI (actR s).2.1 := by
  obtain ⟨_, g2, g3, g4⟩ := numR_back s hB h
  refine ⟨?_, trivial, g4⟩
  rw [show codeI (actR s).1 + 0 = (numR s).1 by unfold actR; dsimp only; rw [code_act _ g3, Int.add_zero]]
  exact g2
theorem back_acts3 (n : Nat) (s : RS) (hB : BI s.1) (h : (manyR actR n s).2.2 = false) : s.1 = numsL 0 ((manyR actR n s).1.map codeI) ++ (manyR actR n s).2.1 ∧ True ∧ BI (manyR actR n s).2.1 := by
  obtain ⟨h1, _, h3⟩ := many_back actR (fun s h => numR_mono s h) (fun x => enc (codeI x + 0).toNat) (fun _ => True) actR_back n s hB h
  rw [map_encode]
  exact ⟨h1, trivial, h3⟩
theorem back_actrows (n k : Nat) (s : RS) (hB : BI s.1) (h : (manyR (manyR actR k) n s).2.2 = false) : s.1 = numsL 0 ((manyR (manyR actR k) n s).1.flatten.map codeI) ++ (manyR (manyR actR k) n s).2.1 := by
  obtain ⟨h1, _, h3⟩ := many_back (manyR actR k) (fun s h => many_mono actR (fun s h => numR_mono s h) k s h) (fun r => numsL 0 (r.map codeI)) (fun _ => True) (back_acts3 k) n s hB h
  rw [codes_flatten]
  exact h1
theorem pairR_back (s : RS) (hB : BI s.1) (h : (pairR s).2.2 = false) : s.1 = numsL 0 [(pairR s).1.1, (pairR s).1.2] ++ (pairR s).2.1 ∧ True ∧ BI (pairR s).2.1 := by
  obtain ⟨_, f2, _, f4⟩ := numR_back s hB (numR_mono _ h)
  obtain ⟨_, g2, _, g4⟩ := numR_back (numR s).2 f4 h
  refine ⟨?_, trivial, g4⟩
  rw [numsL_cons, numsL_cons, show numsL 0 [] = [] from rfl, List.append_nil, List.append_assoc, Int.add_zero, Int.add_zero]
  unfold pairR
  dsimp only
  rw [← g2]
  exact f2
theorem back_pairs (n : Nat) (s : RS) (hB : BI s.1) (h : (manyR pairR n s).2.2 = false) : s.1 = numsL 0 (((manyR pairR n s).1.map (fun x => [x.1, x.2])).flatten) ++ (manyR pairR n s).2.1 := by
  obtain ⟨h1, _, h3⟩ := many_back pairR pairR_mono (fun x => numsL 0 [x.1, x.2]) (fun _ => True) pairR_back n s hB h
  rw [numsL_flatten, List.map_map]
  exact h1
def sec (l : List S48) (i : Nat) : List Int := (l.getD i ⟨0, []⟩).f1
def rD (l : List S48) : List Int × RS := manyR numR 7 (sec l 0, false)
def dI (l : List S48) (i : Nat) : Int := (rD l).1.getD i 0
def dn (l : List S48) (i : Nat) : Nat := (dI l i).toNat
def r3 (l : List S48) : List (List Int) × RS := manyR (manyR lessR (dn l 1)) (dn l 0) (sec l 2, false)
def r4 (l : List S48) : List Int × RS := manyR lessR (dn l 0) (sec l 3, false)
def r5 (l : List S48) : List Int × RS := manyR numR (dn l 2) (sec l 4, false)
def r6 (l : List S48) : List (List S38) × RS := manyR (manyR actR (dn l 4)) (dn l 3) (sec l 5, false)
def r7 (l : List S48) : List (List Int) × RS := manyR (manyR lessR (dn l 5)) (dn l 3) (sec l 6, false)
def r8 (l : List S48) : List (Int × Int) × RS := manyR pairR (dn l 6) (sec l 7, false)
def tabI (l : List S48) : Tab := ⟨sec l 1, (r3 l).1, (r4 l).1, (r5 l).1, (r6 l).1, (r7 l).1, (r8 l).1.map (·.1), (r8 l).1.map (·.2)⟩
def dOk (l : List S48) : Bool := decide (dI l 0 ≤ 512) && decide (dI l 1 ≤ 256) && decide (dI l 2 ≤ 64) && decide (dI l 3 ≤ 512) && decide (dI l 4 ≤ 48) && decide (dI l 5 ≤ 48) && decide (dI l 6 ≤ 128) && decide ((sec l 1).length = 256)
def doneB (s : RS) : Bool := !s.2 && decide (s.1.length = 0)
def doneA (l : List S48) : Bool := doneB (rD l).2 && doneB (r3 l).2 && doneB (r4 l).2 && doneB (r5 l).2 && doneB (r6 l).2 && doneB (r7 l).2 && doneB (r8 l).2
def readB (l : List S48) : Bool := dOk l && doneA l && mayB (tabI l)
theorem doneB_iff (s : RS) : doneB s = true ↔ s.2 = false ∧ s.1 = [] := by
  unfold doneB
  rw [Bool.and_eq_true, Bool.not_eq_true', decide_eq_true_eq, List.length_eq_zero_iff]
def T0 : Tab := ⟨List.replicate 256 0, [], [], [], [], [], [], []⟩
def parseI (b : List Int) : Tab × Int :=
  if (unpackI b).2.2 = 0 then (if (unpackI b).1 = 1 ∧ (unpackI b).2.1.length = 8 ∧ ((unpackI b).2.1.getD 7 ⟨0, []⟩).f0 = 8 ∧ readB (unpackI b).2.1 = true then (tabI (unpackI b).2.1, 0) else (T0, 220)) else (T0, (unpackI b).2.2)
theorem may_cls {T : Tab} (D : DfaParts T) (h : (rd_L4 T.next 0).length ≤ 256) : T.cls.map (fun k => k % 256) = T.cls := by
  have : ∀ l : List Int, (∀ k ∈ l, 0 ≤ k ∧ k < 256) → l.map (fun k => k % 256) = l := by
    intro l
    induction l with
    | nil => intro _; rfl
    | cons a l ih =>
      intro h
      rw [List.map_cons, ih (fun k hk => h k (by simp [hk]))]
      have := h a (by simp)
      rw [show a % 256 = a by omega]
  exact this T.cls (fun k hk => by have := D.cls k hk; omega)
theorem act_code (a : S38) (k s p : Int) (hs : s ≤ 512) (hp : p ≤ 128) (h : actOk a k s p = true) : actI (codeI a) = a := by
  have h1 := actOk_some a k s p
  rw [h] at h1
  unfold tables_mayAct.f at h1
  obtain ⟨f0, f1⟩ := a
  dsimp only at h1
  unfold codeI tables_code.f
  dsimp only
  by_cases c0 : f0 = 0
  · rw [if_pos c0] at h1
    have h2 := of_decide_eq_true (Option.some.inj h1)
    rw [if_neg (by omega), if_neg (by omega), if_neg (by omega), c0, h2]; rfl
  rw [if_neg c0] at h1
  by_cases c3 : f0 = 3
  · rw [if_pos c3] at h1 ⊢
    by_cases d1 : f1 = 0
    · rw [c3, d1]; rfl
    rw [if_neg d1] at h1; cases h1
  rw [if_neg c3] at h1 ⊢
  by_cases c1 : f0 = 1
  · rw [if_pos c1] at h1 ⊢
    by_cases d1 : k > 0
    · rw [if_pos d1] at h1
      by_cases d2 : f1 ≥ 0
      · rw [if_pos d2] at h1
        have d3 := of_decide_eq_true (Option.some.inj h1)
        show actI (wrap64 (2 + wrap64 (2 * f1))) = _
        rw [w64 (x := 2 * f1) (by omega) (by omega), w64 (by omega) (by omega)]
        unfold actI
        rw [if_neg (by omega), if_neg (by omega), c1, show 1 + (2 + 2 * f1) % 2 = 1 by omega, show (2 + 2 * f1 - 2) / 2 = f1 by omega]
      rw [if_neg d2] at h1; cases h1
    rw [if_neg d1] at h1; cases h1
  rw [if_neg c1] at h1 ⊢
  by_cases c2 : f0 = 2
  · rw [if_pos c2] at h1 ⊢
    by_cases d2 : f1 ≥ 1
    · rw [if_pos d2] at h1
      have d3 := of_decide_eq_true (Option.some.inj h1)
      show actI (wrap64 (3 + wrap64 (2 * f1))) = _
      rw [w64 (x := 2 * f1) (by omega) (by omega), w64 (by omega) (by omega)]
      unfold actI
      rw [if_neg (by omega), if_neg (by omega), c2, show 1 + (3 + 2 * f1) % 2 = 2 by omega, show (3 + 2 * f1 - 2) / 2 = f1 by omega]
    rw [if_neg d2] at h1; cases h1
  rw [if_neg c2] at h1; cases h1
theorem row0 {α : Type} (l : List (List α)) (n : Nat) (h : ∀ r ∈ l, r.length = n) (h1 : 1 ≤ l.length) : (l.getD 0 []).length = n := by
  cases l with
  | nil => simp at h1
  | cons a l => exact h a (by simp)
theorem may_goto {T : Tab} (M : MayParts T) (row : List Int) (hr : row ∈ T.goto) : row.length = nN T := by
  obtain ⟨a, _, hz⟩ := zip_mem_r T.action T.goto M.g row hr
  have h1 := List.all_eq_true.1 (show (T.action.zip T.goto).all (mayRow T) = true from M.mr) _ hz
  unfold mayRow at h1
  simp only [Bool.and_eq_true, decide_eq_true_eq] at h1
  exact h1.1.1.2
theorem may_act {T : Tab} (M : MayParts T) (x : S38) (row : List S38) (hr : row ∈ T.action) (hx : x ∈ row) : codeOk x := by
  obtain ⟨grow, _, hz⟩ := zip_mem_left T.action T.goto M.g row hr
  have h1 := List.all_eq_true.1 (show (T.action.zip T.goto).all (mayRow T) = true from M.mr) _ hz
  unfold mayRow at h1
  simp only [Bool.and_eq_true, decide_eq_true_eq] at h1
  obtain ⟨k', hk⟩ := acts_mem _ _ x row 0 h1.1.2 hx
  have hr := code_range x k' _ _ (by have := M.s2; omega) (by have := M.p2; omega) hk
  exact ⟨by omega, act_code x k' _ _ (by have := M.s2; omega) (by have := M.p2; omega) hk⟩
theorem next_w {T : Tab} (D : DfaParts T) : (rd_L4 T.next 0).length ≤ 256 := by
  have e2 := D.n1
  have hj : (0 : Int).toNat < T.next.length := by show 0 < T.next.length; omega
  have := (D.row (T.next[(0 : Int).toNat]) (List.getElem_mem hj)).2.1
  unfold rd_L4
  rw [List.getD_eq_getElem?_getD, List.getElem?_eq_getElem hj]
  exact this
theorem zip_fst {α β : Type} : ∀ (xs : List α) (ys : List β), ys.length = xs.length → (xs.zip ys).map (·.1) = xs ∧ (xs.zip ys).map (·.2) = ys
  | [], [], _ => ⟨rfl, rfl⟩
  | [], b :: ys, h => by simp at h
  | a :: xs, [], h => by simp at h
  | a :: xs, b :: ys, h => by
    obtain ⟨h1, h2⟩ := zip_fst xs ys (by simpa using h)
    rw [List.zip_cons_cons, List.map_cons, List.map_cons, h1, h2]
    exact ⟨rfl, rfl⟩
set_option maxHeartbeats 4000000 in
theorem read_secL {T : Tab} (h : mayB T = true) (hc : T.cls.length = 256) : readB (secL T) = true ∧ tabI (secL T) = T := by
  have M := may_parts h
  have D := dfa_parts M.dfa
  have hw := next_w D
  have e0 := fwd_num (dimsL T) (fits_dims D M.t M.s2 M.t2 M.n2 M.p2) []
  have hD : rD (secL T) = (dimsL T, ([], false)) := by rw [List.append_nil] at e0; exact e0
  have d0 : dI (secL T) 0 = (T.next.length : Int) := by unfold dI; rw [hD]; rfl
  have d1 : dI (secL T) 1 = ((rd_L4 T.next 0).length : Int) := by unfold dI; rw [hD]; rfl
  have d2 : dI (secL T) 2 = (T.terms.length : Int) := by unfold dI; rw [hD]; rfl
  have d3 : dI (secL T) 3 = (T.action.length : Int) := by unfold dI; rw [hD]; rfl
  have d4 : dI (secL T) 4 = (tN T : Int) := by unfold dI; rw [hD]; rfl
  have d5 : dI (secL T) 5 = (nN T : Int) := by unfold dI; rw [hD]; rfl
  have d6 : dI (secL T) 6 = (T.left.length : Int) := by unfold dI; rw [hD]; rfl
  have e3 : r3 (secL T) = (T.next, ([], false)) := by
    unfold r3 dn; rw [d0, d1, Int.toNat_natCast, Int.toNat_natCast]
    have := fwd_rows T.next (rd_L4 T.next 0).length (fun r hr => (D.row r hr).1) (fits_next D).1 []
    rw [List.append_nil] at this; exact this
  have e4 : r4 (secL T) = (T.rule, ([], false)) := by
    unfold r4 dn; rw [d0, Int.toNat_natCast, ← D.u]
    have := fwd_less T.rule (fits_rule D) []
    rw [List.append_nil] at this; exact this
  have e5 : r5 (secL T) = (T.terms, ([], false)) := by
    unfold r5 dn; rw [d2, Int.toNat_natCast]
    have := fwd_num T.terms (fits_terms M.mt M.t2) []
    rw [List.append_nil] at this; exact this
  have e6 : r6 (secL T) = (T.action, ([], false)) := by
    unfold r6 dn; rw [d3, d4, Int.toNat_natCast, Int.toNat_natCast]
    have := fwd_actrows T.action (tN T) (may_row M) (fun r hr a ha => may_act M a r hr ha) []
    rw [List.append_nil] at this; exact this
  have e7 : r7 (secL T) = (T.goto, ([], false)) := by
    unfold r7 dn; rw [d3, d5, Int.toNat_natCast, Int.toNat_natCast, ← M.g]
    have := fwd_rows T.goto (nN T) (may_goto M) (fits_goto M.mr M.g M.s2 M.n2).1 []
    rw [List.append_nil] at this; exact this
  have e8 : r8 (secL T) = (T.left.zip T.size, ([], false)) := by
    unfold r8 dn; rw [d6, Int.toNat_natCast]
    have := fwd_pairs (T.left.zip T.size) (fun x hx => by have := may_prod M x hx; omega) []
    rw [List.append_nil, List.length_zip, M.z, Nat.min_self] at this; exact this
  have ht : tabI (secL T) = T := by
    unfold tabI
    rw [e3, e4, e5, e6, e7, e8, (zip_fst T.left T.size M.z).1, (zip_fst T.left T.size M.z).2, show sec (secL T) 1 = T.cls.map (fun k => k % 256) from rfl, may_cls D hw]
  refine ⟨?_, ht⟩
  have hk : (sec (secL T) 1).length = 256 := by rw [show sec (secL T) 1 = T.cls.map (fun k => k % 256) from rfl, List.length_map, hc]
  have a1 := D.n2
  have a2 := M.t
  have a3 := M.s2
  have a4 := M.t2
  have a5 := M.n2
  have a6 := M.p2
  unfold readB dOk doneA
  rw [ht, h, hD, e3, e4, e5, e6, e7, e8, d0, d1, d2, d3, d4, d5, d6, decide_eq_true hk, decide_eq_true (show (T.next.length : Int) ≤ 512 by omega), decide_eq_true (show ((rd_L4 T.next 0).length : Int) ≤ 256 by omega), decide_eq_true (show (T.terms.length : Int) ≤ 64 by omega), decide_eq_true (show (T.action.length : Int) ≤ 512 by omega), decide_eq_true (show (tN T : Int) ≤ 48 by omega), decide_eq_true (show (nN T : Int) ≤ 48 by omega), decide_eq_true (show (T.left.length : Int) ≤ 128 by omega)]
  rfl
theorem secL_OK {T : Tab} (h : ∀ k ∈ T.cls, True) : OKs (secL T) := by
  intro s hs
  unfold secL at hs
  simp only [List.mem_cons, List.not_mem_nil, or_false] at hs
  rcases hs with h | h | h | h | h | h | h | h <;> subst h
  case inr.inl =>
    intro x hx
    obtain ⟨y, _, rfl⟩ := List.mem_map.1 hx
    exact ⟨Int.emod_nonneg _ (by decide), Int.emod_lt_of_pos _ (by decide)⟩
  all_goals exact numsL_BI _ _
theorem parse_bytes (T : Tab) (hc : T.cls.length = 256) (b : List Int) (h : bytesI T = (b, 0)) : parseI b = (T, 0) ∧ mayB T = true ∧ Whole b := by
  unfold bytesI at h
  by_cases hm : mayB T = true
  · rw [if_pos hm] at h
    obtain ⟨h1, h2⟩ := unpack_packI 1 (secL T) b h (secL_OK (fun _ _ => trivial))
    obtain ⟨h3, h4⟩ := read_secL hm hc
    refine ⟨?_, hm, h2⟩
    unfold parseI
    rw [h1, if_pos rfl, if_pos ⟨rfl, rfl, rfl, h3⟩, h4]
  rw [if_neg hm] at h
  exact absurd (Prod.mk.inj h).2 (by decide)
theorem done_nil {s : RS} (h : doneB s = true) : s.2 = false ∧ s.1 = [] := (doneB_iff s).1 h
theorem tags8 (l : List S48) (h : l.length = 8) (hc : chk 0 l = true) (h8 : (l.getD 7 ⟨0, []⟩).f0 = 8) : l = [⟨1, sec l 0⟩, ⟨2, sec l 1⟩, ⟨3, sec l 2⟩, ⟨4, sec l 3⟩, ⟨5, sec l 4⟩, ⟨6, sec l 5⟩, ⟨7, sec l 6⟩, ⟨8, sec l 7⟩] := by
  rcases l with _ | ⟨⟨t1, x1⟩, _ | ⟨⟨t2, x2⟩, _ | ⟨⟨t3, x3⟩, _ | ⟨⟨t4, x4⟩, _ | ⟨⟨t5, x5⟩, _ | ⟨⟨t6, x6⟩, _ | ⟨⟨t7, x7⟩, _ | ⟨⟨t8, x8⟩, _ | ⟨a, l⟩⟩⟩⟩⟩⟩⟩⟩⟩
  case cons.cons.cons.cons.cons.cons.cons.cons.nil =>
    simp only [chk_cons] at hc
    have h8' : t8 = 8 := h8
    obtain rfl : t1 = 1 := by omega
    obtain rfl : t2 = 2 := by omega
    obtain rfl : t3 = 3 := by omega
    obtain rfl : t4 = 4 := by omega
    obtain rfl : t5 = 5 := by omega
    obtain rfl : t6 = 6 := by omega
    obtain rfl : t7 = 7 := by omega
    subst h8'
    rfl
  all_goals simp at h
theorem rows_of (next : RS → Int × RS) (n k : Nat) (s : RS) : ∀ r ∈ (manyR (manyR next k) n s).1, r.length = k := by
  induction n generalizing s with
  | zero => intro r hr; cases hr
  | succ n ih =>
    intro r hr
    rcases List.mem_cons.1 (show r ∈ (manyR next k s).1 :: (manyR (manyR next k) n (manyR next k s).2).1 from hr) with rfl | hr
    · exact manyR_length _ _ _
    exact ih _ r hr
theorem actrows_of (n k : Nat) (s : RS) : ∀ r ∈ (manyR (manyR actR k) n s).1, r.length = k := by
  induction n generalizing s with
  | zero => intro r hr; cases hr
  | succ n ih =>
    intro r hr
    rcases List.mem_cons.1 (show r ∈ (manyR actR k s).1 :: (manyR (manyR actR k) n (manyR actR k s).2).1 from hr) with rfl | hr
    · exact manyR_length _ _ _
    exact ih _ r hr
theorem list7 (l : List Int) (h : l.length = 7) : l = [l.getD 0 0, l.getD 1 0, l.getD 2 0, l.getD 3 0, l.getD 4 0, l.getD 5 0, l.getD 6 0] := by
  rcases l with _ | ⟨t1, _ | ⟨t2, _ | ⟨t3, _ | ⟨t4, _ | ⟨t5, _ | ⟨t6, _ | ⟨t7, _ | ⟨a, l⟩⟩⟩⟩⟩⟩⟩⟩
  case cons.cons.cons.cons.cons.cons.cons.nil => rfl
  all_goals simp at h
theorem zip_maps {α β : Type} : ∀ (xs : List (α × β)), (xs.map (·.1)).zip (xs.map (·.2)) = xs
  | [] => rfl
  | x :: xs => by rw [List.map_cons, List.map_cons, List.zip_cons_cons, zip_maps xs]
set_option maxHeartbeats 4000000 in
theorem secL_read (l : List S48) (hO : OKs l) (hl : l.length = 8) (hc : chk 0 l = true) (h8 : (l.getD 7 ⟨0, []⟩).f0 = 8) (h : readB l = true) : secL (tabI l) = l ∧ mayB (tabI l) = true ∧ (tabI l).cls.length = 256 := by
  unfold readB dOk doneA at h
  simp only [Bool.and_eq_true, decide_eq_true_eq] at h
  obtain ⟨⟨⟨⟨⟨⟨⟨⟨⟨c0, c1⟩, c2⟩, c3⟩, c4⟩, c5⟩, c6⟩, c7⟩, ⟨⟨⟨⟨⟨⟨g0, g3⟩, g4⟩, g5⟩, g6⟩, g7⟩, g8⟩⟩, hm⟩ := h
  have hBs : ∀ i, BI (sec l i) := by
    intro i
    unfold sec
    rw [List.getD_eq_getElem?_getD]
    rcases hq : l[i]? with _ | s
    · exact BI_nil
    exact hO s (List.mem_of_getElem? hq)
  obtain ⟨b0, n0⟩ := done_nil g0
  obtain ⟨b3, n3⟩ := done_nil g3
  obtain ⟨b4, n4⟩ := done_nil g4
  obtain ⟨b5, n5⟩ := done_nil g5
  obtain ⟨b6, n6⟩ := done_nil g6
  obtain ⟨b7, n7⟩ := done_nil g7
  obtain ⟨b8, n8⟩ := done_nil g8
  obtain ⟨q0, p0⟩ := back_num 7 (sec l 0, false) (hBs 0) b0
  have q3 := back_rows _ _ (sec l 2, false) (hBs 2) b3
  have q4 := (back_less3 _ (sec l 3, false) (hBs 3) b4).1
  have q5 := (back_num _ (sec l 4, false) (hBs 4) b5).1
  have q6 := back_actrows _ _ (sec l 5, false) (hBs 5) b6
  have q7 := back_rows _ _ (sec l 6, false) (hBs 6) b7
  have q8 := back_pairs _ (sec l 7, false) (hBs 7) b8
  rw [show (manyR numR 7 (sec l 0, false)).2.1 = [] from n0, List.append_nil] at q0
  rw [show (manyR (manyR lessR (dn l 1)) (dn l 0) (sec l 2, false)).2.1 = [] from n3, List.append_nil] at q3
  rw [show (manyR lessR (dn l 0) (sec l 3, false)).2.1 = [] from n4, List.append_nil] at q4
  rw [show (manyR numR (dn l 2) (sec l 4, false)).2.1 = [] from n5, List.append_nil] at q5
  rw [show (manyR (manyR actR (dn l 4)) (dn l 3) (sec l 5, false)).2.1 = [] from n6, List.append_nil] at q6
  rw [show (manyR (manyR lessR (dn l 5)) (dn l 3) (sec l 6, false)).2.1 = [] from n7, List.append_nil] at q7
  rw [show (manyR pairR (dn l 6) (sec l 7, false)).2.1 = [] from n8, List.append_nil] at q8
  have L7 := list7 (rD l).1 (manyR_length _ _ _)
  have hp : ∀ i, i < 7 → 0 ≤ dI l i := by
    intro i hi
    unfold dI
    rw [List.getD_eq_getElem?_getD, List.getElem?_eq_getElem (by rw [show (rD l).1.length = 7 from manyR_length _ _ _]; exact hi)]
    exact (p0 _ (List.getElem_mem _)).1
  have M := may_parts hm
  have D := dfa_parts M.dfa
  have t0 : (((tabI l).next.length : Nat) : Int) = dI l 0 := by
    rw [show (tabI l).next.length = dn l 0 from manyR_length _ _ _]; have := hp 0 (by decide); unfold dn; omega
  have t1 : (((rd_L4 (tabI l).next 0).length : Nat) : Int) = dI l 1 := by
    have h1 : (rd_L4 (tabI l).next 0).length = dn l 1 := row0 (tabI l).next (dn l 1) (rows_of lessR _ _ _) D.n1
    rw [h1]; have := hp 1 (by decide); unfold dn; omega
  have t2 : (((tabI l).terms.length : Nat) : Int) = dI l 2 := by
    rw [show (tabI l).terms.length = dn l 2 from manyR_length _ _ _]; have := hp 2 (by decide); unfold dn; omega
  have t3 : (((tabI l).action.length : Nat) : Int) = dI l 3 := by
    rw [show (tabI l).action.length = dn l 3 from manyR_length _ _ _]; have := hp 3 (by decide); unfold dn; omega
  have t4 : ((tN (tabI l) : Nat) : Int) = dI l 4 := by
    have h1 : tN (tabI l) = dn l 4 := row0 (tabI l).action (dn l 4) (actrows_of _ _ _) M.s1
    rw [h1]; have := hp 4 (by decide); unfold dn; omega
  have t5 : ((nN (tabI l) : Nat) : Int) = dI l 5 := by
    have h1 : nN (tabI l) = dn l 5 := row0 (tabI l).goto (dn l 5) (rows_of lessR _ _ _) (by rw [M.g]; exact M.s1)
    rw [h1]; have := hp 5 (by decide); unfold dn; omega
  have t6 : (((tabI l).left.length : Nat) : Int) = dI l 6 := by
    rw [show (tabI l).left.length = dn l 6 from (List.length_map _).trans (manyR_length _ _ _)]; have := hp 6 (by decide); unfold dn; omega
  have hdim : dimsL (tabI l) = (rD l).1 := by
    unfold dimsL
    rw [t0, t1, t2, t3, t4, t5, t6, L7]
    rfl
  refine ⟨?_, hm, c7⟩
  have hpr : prodsL (tabI l) = ((r8 l).1.map (fun x => [x.1, x.2])).flatten := by
    unfold prodsL
    rw [show (tabI l).left.zip (tabI l).size = (r8 l).1 from zip_maps (r8 l).1]
  have hmod : (tabI l).cls.map (fun k => k % 256) = sec l 1 := may_cls D (next_w D)
  unfold secL
  rw [hdim, hpr, hmod]
  rw [tags8 l hl hc h8]
  rw [← tags8 l hl hc h8]
  rw [show numsL 0 (rD l).1 = sec l 0 from q0.symm, show numsL 1 (tabI l).next.flatten = sec l 2 from q3.symm, show numsL 1 (tabI l).rule = sec l 3 from q4.symm, show numsL 0 (tabI l).terms = sec l 4 from q5.symm, show numsL 0 ((tabI l).action.flatten.map codeI) = sec l 5 from q6.symm, show numsL 1 (tabI l).goto.flatten = sec l 6 from q7.symm, show numsL 0 ((r8 l).1.map (fun x => [x.1, x.2])).flatten = sec l 7 from q8.symm]
  exact (tags8 l hl hc h8).symm
theorem bytes_parse (b : List Int) (hB : BI b) (h : (parseI b).2 = 0) : bytesI (parseI b).1 = (b, 0) ∧ mayB (parseI b).1 = true ∧ (parseI b).1.cls.length = 256 := by
  unfold parseI at h ⊢
  by_cases h1 : (unpackI b).2.2 = 0
  · rw [if_pos h1] at h ⊢
    by_cases h2 : (unpackI b).1 = 1 ∧ (unpackI b).2.1.length = 8 ∧ ((unpackI b).2.1.getD 7 ⟨0, []⟩).f0 = 8 ∧ readB (unpackI b).2.1 = true
    · rw [if_pos h2] at h ⊢
      obtain ⟨hk, hl, h8, hr⟩ := h2
      obtain ⟨g1, g2, g3⟩ := pack_unpackI b hB 1 (unpackI b).2.1 (by rw [← h1, ← hk])
      obtain ⟨e1, e2, e3⟩ := secL_read (unpackI b).2.1 g2 hl (okay_length 1 _ g3).2.2.2 h8 hr
      refine ⟨?_, e2, e3⟩
      unfold bytesI
      rw [if_pos e2, e1]
      exact g1
    rw [if_neg h2] at h; exact absurd h (by show ¬ (220 : Int) = 0; decide)
  rw [if_neg h1] at h; exact absurd h h1
end Go.Proofs.Ytkeekganabafbaa.X
end
section
namespace Go.Proofs.Ytkeekganabafbaa.X
open Go.RowKit Go.Proofs.YtkeekganabafbaaW.PrintWords Go.Proofs.YtkeekganabafbaaW.PrintLast Go.Proofs.YtkeekganabafbaaW.PrintMore Go.Proofs.Ytkeekganabafbaa.Pure
set_option linter.unusedVariables false
set_option linter.unusedSimpArgs false
def noU8 (cs : Array Value) : Prop := ∀ (i : Nat) (x : Int), cs[i]? ≠ some (.int .u8 x)
def NB (w : World) (g : Nat) : Prop := ∃ cs t fr, w.heap[g]? = some (.cells cs t fr) ∧ noU8 cs
theorem NB.below {w w' : World} {g : Nat} (h : NB w g) (hb : Below w.heap.size w w') : NB w' g := by
  obtain ⟨cs, t, fr, h1, h2⟩ := h
  exact ⟨cs, t, fr, blk_below h1 hb, h2⟩
theorem CB.keep {w w' : World} {g : Nat} {A : Option Addr} {n : Nat} {l : List Int} (h : CB w A n l) (hn : NB w g) (hk : KeepBut w w' g none) : CB w' A n l := by
  refine Kd.C_keep (0 : Int) h hk (fun ad hA hpos he => ?_)
  obtain ⟨ad', h1, h2⟩ := Kd.at_int h 0 (by decide) (by omega)
  rw [hA] at h1
  injection h1 with h1
  subst h1
  obtain ⟨cs, t, fr, hb, hnn⟩ := hn
  have h3 : (ad.add (0 : Int).toNat).block = g := (add_block _ _).trans he
  unfold World.cell? at h2
  rw [h3, hb] at h2
  dsimp only at h2
  split at h2
  · cases h2
  exact hnn _ _ h2
theorem RB.below {w w' : World} {g : Nat} {l : List Int} {bad : Bool} (h : RB w g l bad) (hb : Below w.heap.size w w') : RB w' g l bad := by
  obtain ⟨A, c, h1, h2, h3⟩ := h
  exact ⟨A, c, blk_below h1 hb, h2, Kd.C_below h3 hb⟩
theorem RB.keep {w w' : World} {g g' : Nat} {l : List Int} {bad : Bool} (h : RB w g l bad) (hne : g ≠ g') (hn : NB w g') (hk : KeepBut w w' g' none) : RB w' g l bad := by
  obtain ⟨A, c, h1, h2, h3⟩ := h
  exact ⟨A, c, hk.blk h1 hne (by simp), h2, CB.keep h3 hn hk⟩
theorem RB.lt {w : World} {g : Nat} {l : List Int} {bad : Bool} (h : RB w g l bad) : g < w.heap.size := by
  obtain ⟨A, c, h1, _⟩ := h
  exact blk_lt h1
theorem noU8_two (a b : Value) (ha : ∀ x, a ≠ .int .u8 x) (hb : ∀ x, b ≠ .int .u8 x) : noU8 #[a, b] := by
  intro i x h
  match i with
  | 0 => exact ha x (by simpa using h)
  | 1 => exact hb x (by simpa using h)
  | j + 2 => simp at h
theorem RB.nb {w : World} {g : Nat} {l : List Int} {bad : Bool} (h : RB w g l bad) : NB w g := by
  obtain ⟨A, c, h1, _⟩ := h
  exact ⟨_, _, _, h1, noU8_two _ _ (fun x h => by cases h) (fun x h => by cases h)⟩
theorem KeepBut.set1 (w : World) (g j : Nat) (u : Value) : KeepBut w (w.setCell ⟨g, j, none⟩ u) g none := (KeepBut.refl w g none).set_ j u
abbrev RBS (w : World) (g : Nat) (s : RS) : Prop := RB w g s.1 s.2
abbrev RBoS (w : World) (b g : Nat) (s : RS) : Prop := RBo w b g s.1 s.2
theorem RBo.lt {w : World} {b g : Nat} {l : List Int} {bad : Bool} (h : RBo w b g l bad) : g < w.heap.size := h.rb.lt
theorem RBo.step {w w' : World} {b g : Nat} {l : List Int} {bad : Bool} (h : RBo w b g l bad) (hm : ∀ k, (k = g ∨ b ≤ k) → k < w.heap.size → w'.heap[k]? = w.heap[k]?) : RBo w' b g l bad := by
  obtain ⟨A, c, h1, h2⟩ := h
  refine ⟨A, c, (hm g (.inl rfl) (blk_lt h1)).trans h1, ?_⟩
  exact Kd.R_mono (Kd.R_step (Kd.R_bound h2) (fun k hk hlt => hm k (.inr hk.2.1) hlt)) (fun k hk => hk.1)
theorem RBo.far {w : World} {b g : Nat} {l : List Int} {bad : Bool} (h : RBo w b g l bad) {g' : Nat} (hg : g' ≠ g) (hb : g' < b) (j : Nat) (u : Value) : RBo (w.setCell ⟨g', j, none⟩ u) b g l bad :=
  h.step (fun k hk hlt => Below.heap_setCell w ⟨g', j, none⟩ u k (by show k ≠ g'; omega))
theorem RBo.below {w w' : World} {b g : Nat} {l : List Int} {bad : Bool} (h : RBo w b g l bad) (hb : Below w.heap.size w w') : RBo w' b g l bad := h.step (fun k _ hlt => hb.block k hlt)
theorem RBo.low {w : World} {b b' g : Nat} {l : List Int} {bad : Bool} (h : RBo w b g l bad) (hb : b' ≤ b) : RBo w b' g l bad := by
  obtain ⟨A, c, h1, h2⟩ := h
  exact ⟨A, c, h1, Kd.R_lower h2 hb⟩
theorem num_n (g : Nat) (s : RS) (w : World) (hr : RBS w g s) (hB : BI s.1) (hl : s.1.length < 225179981368000) :
    Calls Try.prog 59 #[.pointer (some ⟨g, 0, none⟩)] w fun e' w' => e' = .returned (.int .i64 (numR s).1) ∧ RBoS w' w.heap.size g (numR s).2 ∧ KB w w' g :=
  num_calls g s.1 s.2 w hr hB hl _ _ _ rfl
theorem less_n (g : Nat) (s : RS) (w : World) (hr : RBS w g s) (hB : BI s.1) (hl : s.1.length < 225179981368000) :
    Calls Try.prog 61 #[.pointer (some ⟨g, 0, none⟩)] w fun e' w' => e' = .returned (.int .i64 (lessR s).1) ∧ RBoS w' w.heap.size g (lessR s).2 ∧ KB w w' g :=
  less_calls g s.1 s.2 w hr hB hl _ _ _ rfl ⟨(takeI_range s.1).1, (takeI_range s.1).2.1⟩
theorem numR_BI (s : RS) (h : BI s.1) : BI (numR s).2.1 ∧ (numR s).2.1.length ≤ s.1.length := by
  refine ⟨?_, (takeI_range s.1).2.2⟩
  show BI (takeI s.1).2.1
  unfold takeI
  split
  · exact BI_drop h _
  exact BI_nil
end Go.Proofs.Ytkeekganabafbaa.X
end
