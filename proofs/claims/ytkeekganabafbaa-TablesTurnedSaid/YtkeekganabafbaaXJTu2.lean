import Derived.Laws.BitsAllLaws
import Derived.Deep.MidRow
import Derived.Test.YtkeekganabafbaaXJTu1
import Derived.Test.YtkeekganabafbaaXJTu0
/- Texts of this claim, joined. -/
section
namespace Go.Proofs.Ytkeekganabafbaa.X
open Go.RowKit Go.Proofs.YtkeekganabafbaaW.PrintWords Go.Proofs.YtkeekganabafbaaW.PrintLast Go.Proofs.YtkeekganabafbaaW.PrintMore
attribute [local go_sem] max2_int min2_int max_two min_two max_three min_three max_four min_four   -- for this text's walks alone
set_option linter.unusedVariables false
set_option linter.unusedSimpArgs false
def pack_Pack.l0 : Nat → List Int → List (S48) → Int → Int → Option (List Int × Int)
  | 0, _, _, _, _ => none
  | k + 1, x7, x23, x24, x25 => if x25 < x24 then (if 0 ≤ x25 then (if x25 < (x23.length : Int) then ((varnum_Text.f k ((rd_T48 x23 x25).f1) 262144).bind fun bt147 => (if bt147.2 = 0 then (if x7.length < 140737488355328 then ((some (x7 ++ [((rd_T48 x23 x25).f0) % 256] : List Int)).bind fun y151 => (if y151.length + bt147.1.length < 225179981368000 then (pack_Pack.l0 k (y151 ++ bt147.1) x23 x24 (wrap64 (x25 + 1))) else (none))) else (none)) else (some (([] : List Int), bt147.2)))) else (none)) else (none)) else (if (wrap64 ((wrap64 (6 + (x7.length : Int))) + 4)) > 262144 then (some (([] : List Int), 5)) else ((pack_four.f ((wrap64 ((wrap64 (6 + (x7.length : Int))) + 4)) % 4294967296)).bind fun t160 => ((slices_Concat_byte_byte.f k (([(([73, 80] : List Int)), t160, x7] : List (List Int)))).bind fun t166 => ((crc_Of.f k t166).bind fun t169 => ((pack_four.f t169).bind fun t170 => (if 0 < t166.length then (if 0 < t170.length then (if t166.length + t170.length < 140737488355328 then (some ((t166 ++ t170), 0)) else (none)) else (none)) else (none)))))))
def pack_Pack.f (k : Nat) (a0 : Int) (l1 : List (S48)) : Option (List Int × Int) := (pack_check.f k a0 l1).bind fun t141 => (if t141 = 0 then (pack_Pack.l0 k (([(a0) % 256] : List Int)) l1 (l1.length : Int) 0) else (some (([] : List Int), t141)))
theorem pack_Pack.mono_l : ∀ k, (∀ y0 y1 y2 y3, LeO (pack_Pack.l0 k y0 y1 y2 y3) (pack_Pack.l0 (k + 1) y0 y1 y2 y3))
  | 0 => fun _ _ _ _ r h => by simp [pack_Pack.l0] at h
  | k + 1 => by
    have ih0 := pack_Pack.mono_l k
    · intro y0 y1 y2 y3
      unfold pack_Pack.l0
      repeat' first
      | (with_reducible exact ih0 _ _ _ _)
      | (with_reducible exact crc_Of.mono _ _)
      | (with_reducible exact pack_check.mono _ _ _)
      | (with_reducible exact slices_Concat_byte_byte.mono _ _)
      | (with_reducible exact varnum_Text.mono _ _ _)
      | (with_reducible exact LeO.refl _)
      | (with_reducible exact LeO.none _)
      | (with_reducible refine LeO.ite ?_ ?_)
      | (with_reducible refine LeO.bind ?_ (fun _ => ?_))
      | exact ih0 _ _ _ _
      | exact crc_Of.mono _ _
      | exact pack_check.mono _ _ _
      | exact slices_Concat_byte_byte.mono _ _
      | exact varnum_Text.mono _ _ _
      | exact LeO.none _
      | refine LeO.ite ?_ ?_
      | refine LeO.bind ?_ (fun _ => ?_)
theorem pack_Pack.mono : ∀ a0 a1 k, LeO (pack_Pack.f k a0 a1) (pack_Pack.f (k + 1) a0 a1) := by
  intro a0 a1 k
  have ih0 := pack_Pack.mono_l k
  unfold pack_Pack.f
  repeat' first
      | (with_reducible exact ih0 _ _ _ _)
      | (with_reducible exact crc_Of.mono _ _)
      | (with_reducible exact pack_check.mono _ _ _)
      | (with_reducible exact slices_Concat_byte_byte.mono _ _)
      | (with_reducible exact varnum_Text.mono _ _ _)
      | (with_reducible exact LeO.refl _)
      | (with_reducible exact LeO.none _)
      | (with_reducible refine LeO.ite ?_ ?_)
      | (with_reducible refine LeO.bind ?_ (fun _ => ?_))
      | exact ih0 _ _ _ _
      | exact crc_Of.mono _ _
      | exact pack_check.mono _ _ _
      | exact slices_Concat_byte_byte.mono _ _
      | exact varnum_Text.mono _ _ _
      | exact LeO.none _
      | refine LeO.ite ?_ ?_
      | refine LeO.bind ?_ (fun _ => ?_)
def pack_Pack.T17 : Bool × List (List Nat × List Nat) := (true, [([], []), ([], []), ([1], [1]), ([], []), ([3], [3]), ([0, 2, 4], [0, 2, 4]), ([], []), ([6], [6]), ([7, 7], [7]), ([5, 8, 8], [5, 8]), ([9, 9, 0, 1, 2, 3, 4, 5, 6, 7, 8, 9], [9]), ([10, 0, 1, 2, 3, 4, 5, 6, 7, 8, 9, 10], [])])
def pack_Pack.B17 : List Nat := [0, 0, 2, 0, 8, 31, 0, 64, 192, 511, 1023, 2047]
theorem pack_Pack.tab17 : rtab .any (opsOf Try.f16 17) = pack_Pack.T17 := by kernel_rfl
theorem pack_Pack.bits17 : waitsOk pack_Pack.T17.2 pack_Pack.B17 = true := by kernel_rfl
set_option maxHeartbeats 8000000 in
set_option maxRecDepth 100000 in
theorem pack_Pack.calls (k : Nat) (a0 : Int) (A1 : Option Addr) (c1 : Nat) (l1 : List (S48)) (r1 : List Int) (r2 : Int) (w : World) (hr1 : Kd.C k48 w A1 l1.length l1) (hc1 : l1.length ≤ c1) (h : pack_Pack.f k a0 l1 = some (r1, r2)) :
    Calls Try.prog 16 #[.int .i64 a0, .slice A1 l1.length c1] w fun e w' => ∃ v0_ : Value, e = .returned (.tuple #[v0_, .int .i64 r2]) ∧ Kd.R (Kd.int .u8) 5 w' w.heap.size (fun _ => True) v0_ r1 ∧ Below w.heap.size w w' := by
  have hu48 := Try.underlying48
  have HR1 := Aside0.mk hr1
  have HC1 := Aside0.mk hc1
  clear hr1 hc1
  have HB := Aside0.mk (Below.refl w.heap.size w)
  have H : ((pack_check.f k a0 l1).bind fun t141 => (if t141 = 0 then (pack_Pack.l0 k (([(a0) % 256] : List Int)) l1 (l1.length : Int) 0) else (some (([] : List Int), t141)))) = some (r1, r2) := h
  clear h
  replace H := Option.bind_eq_some_iff.mp H
  obtain ⟨t141, A30, H⟩ := H
  replace H : (if t141 = 0 then (pack_Pack.l0 k (([(a0) % 256] : List Int)) l1 (l1.length : Int) 0) else (some (([] : List Int), t141))) = some (r1, r2) := H
  have A3 := Aside0.mk A30
  clear A30
  by_cases c4 : t141 = 0
  · rw [if_pos c4] at H
    have c4b0 : (t141 == 0) = true := beq_iff_eq.mpr c4
    have c4b1 : (t141 != 0) = false := bne_eq_false_iff_eq.mpr c4
    clear c4
    obtain ⟨y142, hy142⟩ : ∃ y_ : List Int, y_ = (([(a0) % 256] : List Int)) := ⟨_, rfl⟩
    replace H : (pack_Pack.l0 k y142 l1 (l1.length : Int) 0) = some (r1, r2) := by first | (rw [hy142]; with_reducible exact H) | (have H2_ := (Option.bind_some _ _).symm.trans H; rw [hy142]; with_reducible exact H2_) | (have H2_ := (Option.bind_some _ _).symm.trans H; with_reducible exact H2_) | with_reducible exact H | (rw [hy142]; exact H) | exact H
    have Ny142 := Aside0.mk hy142
    clear hy142
    have H' := Aside0.mk H
    clear H
    go_enter Try.func16, Try.ntmps16
    go_wp2_with (first | ((with_reducible refine gate_callee (f := 33) rfl ?_); refine goesL_ (some 16) rfl rfl Try.func33 (by kernel_rfl) rfl #[.int .i64 a0, .slice A1 l1.length c1] rfl (by (try simp only [List.map_toArray, List.map_cons, List.map_nil]); first | done | rfl | (simp only [List.length_drop, List.length_take]; rfl)) ?_; (with_reducible refine (pack_check.calls k a0 _ _ l1 t141 _ ?side1 ?side2 A3.out).mono ?_); (case side1 => repeat (first | exact HR1.out | (with_reducible refine Kd.C_alloc ?_ _) | (with_reducible refine Kd.C_drewN ?_ _) | (with_reducible refine Kd.C_drew ?_))); (case side2 => exact HC1.out); rintro e w5 ⟨rfl, hb⟩; refine ⟨_, rfl, ?_⟩; have n0_ := Aside0.mk (below_step (by repeat (first | (with_reducible first | exact HB.out | apply below_alloc | apply pw_below_drewN | apply below_drew1) | exact HB.out)) hb); clear HB; have HB := n0_; clear n0_; (try clear hb); (try clear hb2); (try clear hk); (try clear hi)) | ((with_reducible refine gate_dst (N := 22) rfl ?_); refine Kd.R_lit (Kd.int .u8) _ 5 ?hg (N := 22) ?hd (xs := ([(a0) % 256] : List Int)) (inner := [.int .u8 ((a0) % 256)]) (ok := fun _ => True) (okp := fun _ => True) ?hr ?hp (fun _ hk => hk) trivial (Below.refl _ _) (Nat.le_refl _) (by simp) ?_; (case hd => rfl); (case hg => rfl); (case hr => first | (go_simp; done) | (go_simp; rfl)); (case hp => exact (Reps.one (show Kd.M (Kd.int .u8) _ _ _ ((a0) % 256) [.int .u8 ((a0) % 256)] from rfl) (Reps.none _ _))); intro v143 w6 ho7 hb hg_ hnew_; clear hg_ hnew_; (first | rw [← Ny142.out] at ho7 | (simp only [Int.reduceToNat] at ho7; rw [← Ny142.out] at ho7)); have n0_ := Aside0.mk (Kd.R_lower ho7 (below_size (by repeat (first | (with_reducible first | exact HB.out | apply below_alloc | apply pw_below_drewN | apply below_drew1) | exact HB.out)))); have n1_ := Aside0.mk (below_step (by repeat (first | (with_reducible first | exact HB.out | apply below_alloc | apply pw_below_drewN | apply below_drew1) | exact HB.out)) hb); clear HB; have HO144 := n0_; have HB := n1_; clear n0_ n1_; clear hb ho7))
    go_loopg [7, 25] k (fun kq v7 v25 w' => ∃ (x7_1 : List Int) (x25_1 : Int), v25 = .int .i64 x25_1 ∧ Aside0 (pack_Pack.l0 kq x7_1 l1 (l1.length : Int) x25_1 = some (r1, r2)) ∧ Aside0 (kq ≤ k) ∧ Aside0 (Kd.R (Kd.int .u8) 5 w' w.heap.size (fun _ => True) v7 x7_1) ∧ Aside0 (Below w.heap.size w w'))
    case atStart => exact ⟨(y142), (0), (by first | rfl | (simp; done) | (simp [*]; done)), H', ⟨Nat.le_refl _⟩, ⟨by (with_reducible repeat (first | apply Kd.R_alloc | apply Kd.R_drewN | apply Kd.R_drew)); exact HO144.out⟩, ⟨by repeat (first | (with_reducible first | exact HB.out | apply below_alloc | apply pw_below_drewN | apply below_drew1) | exact HB.out)⟩⟩
    clear H'
    try clear c1
    try clear p2
    try clear c3
    try clear c4
    try clear c4b0
    try clear c4b1
    obtain ⟨x7_1, x25_1, rfl, HA, HK1, HO_7, HB⟩ := hrel
    cases gk with
    | zero => exact absurd HA.out (by simp [pack_Pack.l0])
    | succ k1 =>
      have H := HA.out
      clear HA
      simp only [pack_Pack.l0] at H
      by_cases c8 : x25_1 < (l1.length : Int)
      · rw [if_pos c8] at H
        have c8b0 : decide (x25_1 < (l1.length : Int)) = true := decide_eq_true c8
        clear c8
        by_cases c9 : 0 ≤ x25_1
        · rw [if_pos c9] at H
          have c9b0 : decide (0 ≤ x25_1) = true := decide_eq_true c9
          clear c9
          by_cases c10 : x25_1 < (l1.length : Int)
          · rw [if_pos c10] at H
            have c10b0 : decide (x25_1 < (l1.length : Int)) = true := decide_eq_true c10
            clear c10
            replace H := Option.bind_eq_some_iff.mp H
            obtain ⟨⟨t147, t148⟩, A110, H⟩ := H
            replace H : (if t148 = 0 then (if x7_1.length < 140737488355328 then ((some (x7_1 ++ [((rd_T48 l1 x25_1).f0) % 256] : List Int)).bind fun y151 => (if y151.length + t147.length < 225179981368000 then (pack_Pack.l0 k1 (y151 ++ t147) l1 (l1.length : Int) (wrap64 (x25_1 + 1))) else (none))) else (none)) else (some (([] : List Int), t148))) = some (r1, r2) := H
            have A11 := Aside0.mk A110
            clear A110
            by_cases c12 : t148 = 0
            · rw [if_pos c12] at H
              have c12b0 : (t148 == 0) = true := beq_iff_eq.mpr c12
              have c12b1 : (t148 != 0) = false := bne_eq_false_iff_eq.mpr c12
              clear c12
              by_cases c13 : x7_1.length < 140737488355328
              · rw [if_pos c13] at H
                have LMc13 := Aside0.mk c13
                clear c13
                obtain ⟨y151, hy151⟩ : ∃ y_ : List Int, y_ = (x7_1 ++ [((rd_T48 l1 x25_1).f0) % 256]) := ⟨_, rfl⟩
                replace H : (if y151.length + t147.length < 225179981368000 then (pack_Pack.l0 k1 (y151 ++ t147) l1 (l1.length : Int) (wrap64 (x25_1 + 1))) else (none)) = some (r1, r2) := by first | (rw [hy151]; with_reducible exact H) | (have H2_ := (Option.bind_some _ _).symm.trans H; rw [hy151]; with_reducible exact H2_) | (have H2_ := (Option.bind_some _ _).symm.trans H; with_reducible exact H2_) | with_reducible exact H | (rw [hy151]; exact H) | exact H
                have Ny151 := Aside0.mk hy151
                clear hy151
                by_cases c14 : y151.length + t147.length < 225179981368000
                · rw [if_pos c14] at H
                  have LMc14 := Aside0.mk c14
                  clear c14
                  obtain ⟨y154, hy154⟩ : ∃ y_ : List Int, y_ = (y151 ++ t147) := ⟨_, rfl⟩
                  replace H : (pack_Pack.l0 k1 y154 l1 (l1.length : Int) (wrap64 (x25_1 + 1))) = some (r1, r2) := by first | (rw [hy154]; with_reducible exact H) | (have H2_ := (Option.bind_some _ _).symm.trans H; rw [hy154]; with_reducible exact H2_) | (have H2_ := (Option.bind_some _ _).symm.trans H; with_reducible exact H2_) | with_reducible exact H | (rw [hy154]; exact H) | exact H
                  have Ny154 := Aside0.mk hy154
                  clear hy154
                  have H' := Aside0.mk H
                  clear H
                  have p145 : 0 ≤ (x25_1 : Int) := of_decide_eq_true (by first | (with_reducible assumption) | assumption)
                  have q145 : x25_1 < (l1.length : Int) := of_decide_eq_true (by first | (with_reducible assumption) | assumption)
                  obtain ⟨ad145, A145_1, c145_1, e145, hx145_0, hx145_1, hl145_1, hi145_1⟩ := at_T48 HR1.out x25_1 p145 q145
                  cases e145
                  replace hx145_0 := (HB.out.cell (World.block_lt_of_cell? w _ hx145_0)).trans hx145_0
                  replace hx145_1 := (HB.out.cell (World.block_lt_of_cell? w _ hx145_1)).trans hx145_1
                  have HR145_1 := Aside0.mk hi145_1
                  have HC145_1 := Aside0.mk hl145_1
                  clear hi145_1 hl145_1
                  replace p145 := eq_true p145
                  replace q145 := eq_true q145
                  go_wp2_with (first | ((with_reducible refine gate_dst (N := 9) rfl ?_); refine box_event ?hg (N := 9) ?hd (cs := #[.int .i64 0, .slice none 0 0]) (t := 48) ?hr ?_; (case hd => rfl); (case hg => rfl); (case hr => first | (go_simp; done) | (go_simp; rfl)); intro gb146 hg w15 hbox hb; have n0_ := Aside0.mk (Kd.R_below (by (with_reducible repeat (first | apply Kd.R_alloc | apply Kd.R_drewN | apply Kd.R_drew)); exact HO_7.out) hb); have n1_ := Aside0.mk (below_step (by repeat (first | (with_reducible first | exact HB.out | apply below_alloc | apply pw_below_drewN | apply below_drew1) | exact HB.out)) hb); have n2_ := Aside0.mk (hbox); have n3_ := Aside0.mk ((by rw [hg]; exact (below_size (by repeat (first | (with_reducible first | exact HB.out | apply below_alloc | apply pw_below_drewN | apply below_drew1) | exact HB.out))) : w.heap.size ≤ gb146)); have n4_ := Aside0.mk ((by rw [hg]; exact (below_size (by repeat (first | (with_reducible first | exact HB.out | apply below_alloc | apply pw_below_drewN | apply below_drew1) | exact HB.out))) : w.heap.size ≤ gb146)); clear HO_7; clear HB; have HO_7 := n0_; have HB := n1_; have BK146 := n2_; have GW146 := n3_; have GE146 := n4_; clear n0_ n1_ n2_ n3_ n4_; clear hb hbox hg; have hcz16_0 : w15.cell? ⟨gb146, 0, none⟩ = some (.int .i64 0) := (blk_cell BK146.out 0).trans rfl; have hcz16_1 : w15.cell? ⟨gb146, 1, none⟩ = some (.slice none 0 0) := (blk_cell BK146.out 1).trans rfl; have hfz16_0 := blk_frozen BK146.out 0; have hfz16_1 := blk_frozen BK146.out 1) | ((with_reducible refine gate_callee (f := 34) rfl ?_); refine goesL_ (some 32) rfl rfl Try.func34 (by kernel_rfl) rfl #[.slice A145_1 ((rd_T48 l1 x25_1).f1).length c145_1, .int .i64 262144] rfl (by (try simp only [List.map_toArray, List.map_cons, List.map_nil]); first | done | rfl | (simp only [List.length_drop, List.length_take]; rfl)) ?_; (with_reducible refine (varnum_Text.calls k1 _ _ ((rd_T48 l1 x25_1).f1) 262144 t147 t148 _ ?side1 ?side2 A11.out).mono ?_); (case side1 => exact Kd.C_below HR145_1.out (by repeat (first | (with_reducible first | exact HB.out | apply below_alloc | apply pw_below_drewN | apply below_drew1 | refine below_set ?_ GE146.out) | exact HB.out))); (case side2 => exact HC145_1.out); rintro e w17 ⟨v149, rfl, ho0, hb⟩; refine ⟨_, rfl, ?_⟩; have n0_ := Aside0.mk (Kd.R_elder' (by (with_reducible repeat (first | apply Kd.R_alloc | apply Kd.R_drewN | apply Kd.R_drew)); exact (Kd.R_mono (Kd.R_far (p := ⟨gb146, 1, none⟩) (Kd.R_far (p := ⟨gb146, 0, none⟩) (Kd.R_types HO_7.out BK146.out (by decide)) (fun _ hk => hk.2) (.int .i64 ((rd_T48 l1 x25_1).f0))) (fun _ hk => hk.2) (.slice A145_1 ((rd_T48 l1 x25_1).f1).length c145_1)) (fun _ h_ => h_.1))) (Kd.R_base ho0) hb); have n1_ := Aside0.mk (Kd.R_lower (Kd.R_new' ho0 (Kd.R_lt (by (with_reducible repeat (first | apply Kd.R_alloc | apply Kd.R_drewN | apply Kd.R_drew)); exact (Kd.R_mono (Kd.R_far (p := ⟨gb146, 1, none⟩) (Kd.R_far (p := ⟨gb146, 0, none⟩) (Kd.R_types HO_7.out BK146.out (by decide)) (fun _ hk => hk.2) (.int .i64 ((rd_T48 l1 x25_1).f0))) (fun _ hk => hk.2) (.slice A145_1 ((rd_T48 l1 x25_1).f1).length c145_1)) (fun _ h_ => h_.1))))) (below_size (by repeat (first | (with_reducible first | exact HB.out | apply below_alloc | apply pw_below_drewN | apply below_drew1 | refine below_set ?_ GE146.out) | exact HB.out)))); have n2_ := Aside0.mk (blk_below (g := gb146) (o := .cells #[.int .i64 ((rd_T48 l1 x25_1).f0), .slice A145_1 ((rd_T48 l1 x25_1).f1).length c145_1] 48 (0, 0)) (by (with_reducible repeat (first | refine blk_drewN ?_ _ | refine blk_drew ?_ | refine blk_alloc ?_ _)); refine blk_put (cs := #[.int .i64 ((rd_T48 l1 x25_1).f0), .slice none 0 0]) ?_ 1 _ rfl; (with_reducible repeat (first | refine blk_drewN ?_ _ | refine blk_drew ?_ | refine blk_alloc ?_ _)); refine blk_put (cs := #[.int .i64 0, .slice none 0 0]) ?_ 0 _ rfl; (with_reducible repeat (first | refine blk_drewN ?_ _ | refine blk_drew ?_ | refine blk_alloc ?_ _)); exact BK146.out) hb); have n3_ := Aside0.mk (below_step (by repeat (first | (with_reducible first | exact HB.out | apply below_alloc | apply pw_below_drewN | apply below_drew1 | refine below_set ?_ GE146.out) | exact HB.out)) hb); clear HO_7; clear BK146; clear HB; have HO_7 := n0_; have HO150 := n1_; have BK146 := n2_; have HB := n3_; clear n0_ n1_ n2_ n3_; (try clear hb); (try clear hb2); (try clear hk); (try clear hi); (try clear ho0); have hcz18_0 : w17.cell? ⟨gb146, 0, none⟩ = some (.int .i64 ((rd_T48 l1 x25_1).f0)) := (blk_cell BK146.out 0).trans rfl; have hcz18_1 : w17.cell? ⟨gb146, 1, none⟩ = some (.slice A145_1 ((rd_T48 l1 x25_1).f1).length c145_1) := (blk_cell BK146.out 1).trans rfl; have hfz18_0 := blk_frozen BK146.out 0; have hfz18_1 := blk_frozen BK146.out 1) | ((with_reducible refine gate_builtin (b := .append) (xs := #[.tmp 38, .tmp 42]) rfl ?_); at_builtin; refine Kd.R_append (Kd.int .u8) (w0 := w) w.heap.size rfl (.tmp 38) (.tmp 42) 31 5 (.int .u8 0) 1 rfl Try.underlying31 info5 rfl (by decide) (by omega) u7 x7_1 (((rd_T48 l1 x25_1).f0) % 256) [.int .u8 (((rd_T48 l1 x25_1).f0) % 256)] (fun k_ => some k_ ≠ (v149 : Value).ownBlock) (fun _ => False) rfl rfl ?aP (fun _ hk => hk.elim) ?aF ?aO ?aB ?aS ?aL ?_; (case aP => exact rfl); (case aB => exact (by repeat (first | (with_reducible first | exact HB.out | apply below_alloc | apply pw_below_drewN | apply below_drew1 | refine below_set ?_ GE146.out) | exact HB.out))); (case aF => exact (fun k_ hk => Kd.fresh' (Kd.R_lt (by (with_reducible repeat (first | apply Kd.R_alloc | apply Kd.R_drewN | apply Kd.R_drew)); exact HO150.out)) k_ hk)); (case aO => exact (by (with_reducible repeat (first | apply Kd.R_alloc | apply Kd.R_drewN | apply Kd.R_drew)); exact Kd.R_mono HO_7.out (fun _ hk => hk.2))); (case aS => exact (below_size (by repeat (first | (with_reducible first | exact HB.out | apply below_alloc | apply pw_below_drewN | apply below_drew1 | refine below_set ?_ GE146.out) | exact HB.out)))); (case aL => have := LMc13.out; omega); intro v152 w19 ho hb hg hat; rw [← Ny151.out] at ho; have n0_ := Aside0.mk (blk_grown (g := gb146) (o := .cells #[.int .i64 ((rd_T48 l1 x25_1).f0), .slice A145_1 ((rd_T48 l1 x25_1).f1).length c145_1] 48 (0, 0)) (by (with_reducible repeat (first | refine blk_drewN ?_ _ | refine blk_drew ?_ | refine blk_alloc ?_ _)); exact BK146.out) hg (Kd.R_ne HO_7.out BK146.out (by decide))); have n1_ := Aside0.mk (Kd.R_after (ok := (fun _ => True)) (by (with_reducible repeat (first | apply Kd.R_alloc | apply Kd.R_drewN | apply Kd.R_drew)); exact HO150.out) hg hat); have n2_ := Aside0.mk (hb); have n3_ := Aside0.mk (ho); clear BK146; clear HO150; clear HB; clear HO_7; have BK146 := n0_; have HO150 := n1_; have HB := n2_; have HO153 := n3_; clear n0_ n1_ n2_ n3_; clear ho hb hg hat; obtain ⟨Ao21, co21, eo21⟩ := Kd.R_slice HO150.out; subst eo21) | ((with_reducible refine gate_builtin (b := .append) (xs := #[.tmp 43, .tmp 44]) rfl ?_); at_builtin; refine Kd.R_append_rows_wide (Kd.int .u8) (w0 := w) w.heap.size rfl (.tmp 43) (.tmp 44) 31 5 (.int .u8 0) 1 rfl Try.underlying31 info5 rfl (by decide) (by omega) v152 y151 t147 _ _ _ (fun k_ => some k_ ≠ (.slice Ao21 t147.length co21 : Value).ownBlock) (fun _ => False) rfl rfl ?aO ?aR (fun _ _ h => h) (fun _ h => h.elim) ?aF ?aB ?aS ?aL ?_; (case aR => repeat (first | exact (Kd.R_reads' HO150.out).2.2 | (with_reducible refine Kd.C_alloc ?_ _) | (with_reducible refine Kd.C_drewN ?_ _) | (with_reducible refine Kd.C_drew ?_))); (case aB => exact (by repeat (first | (with_reducible first | exact HB.out | apply below_alloc | apply pw_below_drewN | apply below_drew1 | refine below_set ?_ GE146.out) | exact HB.out))); (case aF => exact (fun k_ hk => Kd.fresh' (Kd.R_lt (by (with_reducible repeat (first | apply Kd.R_alloc | apply Kd.R_drewN | apply Kd.R_drew)); exact HO150.out)) k_ hk)); (case aO => exact (by (with_reducible repeat (first | apply Kd.R_alloc | apply Kd.R_drewN | apply Kd.R_drew)); exact HO153.out)); (case aS => exact (below_size (by repeat (first | (with_reducible first | exact HB.out | apply below_alloc | apply pw_below_drewN | apply below_drew1 | refine below_set ?_ GE146.out) | exact HB.out)))); (case aL => have := LMc14.out; omega); intro v155 w20 ho hb hg hat; rw [← Ny154.out] at ho; have n0_ := Aside0.mk (blk_grown (g := gb146) (o := .cells #[.int .i64 ((rd_T48 l1 x25_1).f0), .slice A145_1 ((rd_T48 l1 x25_1).f1).length c145_1] 48 (0, 0)) (by (with_reducible repeat (first | refine blk_drewN ?_ _ | refine blk_drew ?_ | refine blk_alloc ?_ _)); exact BK146.out) hg (Kd.R_ne HO153.out BK146.out (by decide))); have n1_ := Aside0.mk (Kd.R_after (ok := (fun _ => True)) (by (with_reducible repeat (first | apply Kd.R_alloc | apply Kd.R_drewN | apply Kd.R_drew)); exact HO150.out) hg hat); have n2_ := Aside0.mk (hb); have n3_ := Aside0.mk (ho); clear BK146; clear HO150; clear HB; clear HO153; have BK146 := n0_; have HO150 := n1_; have HB := n2_; have HO156 := n3_; clear n0_ n1_ n2_ n3_; clear ho hb hg hat))
                  go_roundg k1
                  case measure => have := HK1.out; omega
                  case rel => exact ⟨(y154), (wrap64 (x25_1 + 1)), (by first | rfl | (simp; done) | (simp [*]; done)), H', ⟨by have := HK1.out; omega⟩, ⟨by (with_reducible repeat (first | apply Kd.R_alloc | apply Kd.R_drewN | apply Kd.R_drew)); exact Kd.R_mono HO156.out (fun _ hk => trivial)⟩, ⟨by repeat (first | (with_reducible first | exact HB.out | apply below_alloc | apply pw_below_drewN | apply below_drew1 | refine below_set ?_ GE146.out) | exact HB.out)⟩⟩
                rw [if_neg c14] at H
                exact absurd H (by simp)
              rw [if_neg c13] at H
              exact absurd H (by simp)
            rw [if_neg c12] at H
            have c12b0 : (t148 == 0) = false := beq_eq_false_iff_ne.mpr c12
            have c12b1 : (t148 != 0) = true := bne_iff_ne.mpr c12
            simp only [Option.some.injEq, Prod.mk.injEq] at H
            obtain ⟨rfl, rfl⟩ := H
            have p145 : 0 ≤ (x25_1 : Int) := of_decide_eq_true (by first | (with_reducible assumption) | assumption)
            have q145 : x25_1 < (l1.length : Int) := of_decide_eq_true (by first | (with_reducible assumption) | assumption)
            obtain ⟨ad145, A145_1, c145_1, e145, hx145_0, hx145_1, hl145_1, hi145_1⟩ := at_T48 HR1.out x25_1 p145 q145
            cases e145
            replace hx145_0 := (HB.out.cell (World.block_lt_of_cell? w _ hx145_0)).trans hx145_0
            replace hx145_1 := (HB.out.cell (World.block_lt_of_cell? w _ hx145_1)).trans hx145_1
            have HR145_1 := Aside0.mk hi145_1
            have HC145_1 := Aside0.mk hl145_1
            clear hi145_1 hl145_1
            replace p145 := eq_true p145
            replace q145 := eq_true q145
            go_wp2_with (first | ((with_reducible refine gate_dst (N := 9) rfl ?_); refine box_event ?hg (N := 9) ?hd (cs := #[.int .i64 0, .slice none 0 0]) (t := 48) ?hr ?_; (case hd => rfl); (case hg => rfl); (case hr => first | (go_simp; done) | (go_simp; rfl)); intro gb146 hg w22 hbox hb; have n0_ := Aside0.mk (Kd.R_below (by (with_reducible repeat (first | apply Kd.R_alloc | apply Kd.R_drewN | apply Kd.R_drew)); exact HO_7.out) hb); have n1_ := Aside0.mk (below_step (by repeat (first | (with_reducible first | exact HB.out | apply below_alloc | apply pw_below_drewN | apply below_drew1) | exact HB.out)) hb); have n2_ := Aside0.mk (hbox); have n3_ := Aside0.mk ((by rw [hg]; exact (below_size (by repeat (first | (with_reducible first | exact HB.out | apply below_alloc | apply pw_below_drewN | apply below_drew1) | exact HB.out))) : w.heap.size ≤ gb146)); have n4_ := Aside0.mk ((by rw [hg]; exact (below_size (by repeat (first | (with_reducible first | exact HB.out | apply below_alloc | apply pw_below_drewN | apply below_drew1) | exact HB.out))) : w.heap.size ≤ gb146)); clear HO_7; clear HB; have HO_7 := n0_; have HB := n1_; have BK146 := n2_; have GW146 := n3_; have GE146 := n4_; clear n0_ n1_ n2_ n3_ n4_; clear hb hbox hg; have hcz23_0 : w22.cell? ⟨gb146, 0, none⟩ = some (.int .i64 0) := (blk_cell BK146.out 0).trans rfl; have hcz23_1 : w22.cell? ⟨gb146, 1, none⟩ = some (.slice none 0 0) := (blk_cell BK146.out 1).trans rfl; have hfz23_0 := blk_frozen BK146.out 0; have hfz23_1 := blk_frozen BK146.out 1) | ((with_reducible refine gate_callee (f := 34) rfl ?_); refine goesL_ (some 32) rfl rfl Try.func34 (by kernel_rfl) rfl #[.slice A145_1 ((rd_T48 l1 x25_1).f1).length c145_1, .int .i64 262144] rfl (by (try simp only [List.map_toArray, List.map_cons, List.map_nil]); first | done | rfl | (simp only [List.length_drop, List.length_take]; rfl)) ?_; (with_reducible refine (varnum_Text.calls k1 _ _ ((rd_T48 l1 x25_1).f1) 262144 t147 t148 _ ?side1 ?side2 A11.out).mono ?_); (case side1 => exact Kd.C_below HR145_1.out (by repeat (first | (with_reducible first | exact HB.out | apply below_alloc | apply pw_below_drewN | apply below_drew1 | refine below_set ?_ GE146.out) | exact HB.out))); (case side2 => exact HC145_1.out); rintro e w24 ⟨v149, rfl, ho0, hb⟩; refine ⟨_, rfl, ?_⟩; have n0_ := Aside0.mk (Kd.R_elder' (by (with_reducible repeat (first | apply Kd.R_alloc | apply Kd.R_drewN | apply Kd.R_drew)); exact (Kd.R_mono (Kd.R_far (p := ⟨gb146, 1, none⟩) (Kd.R_far (p := ⟨gb146, 0, none⟩) (Kd.R_types HO_7.out BK146.out (by decide)) (fun _ hk => hk.2) (.int .i64 ((rd_T48 l1 x25_1).f0))) (fun _ hk => hk.2) (.slice A145_1 ((rd_T48 l1 x25_1).f1).length c145_1)) (fun _ h_ => h_.1))) (Kd.R_base ho0) hb); have n1_ := Aside0.mk (Kd.R_lower (Kd.R_new' ho0 (Kd.R_lt (by (with_reducible repeat (first | apply Kd.R_alloc | apply Kd.R_drewN | apply Kd.R_drew)); exact (Kd.R_mono (Kd.R_far (p := ⟨gb146, 1, none⟩) (Kd.R_far (p := ⟨gb146, 0, none⟩) (Kd.R_types HO_7.out BK146.out (by decide)) (fun _ hk => hk.2) (.int .i64 ((rd_T48 l1 x25_1).f0))) (fun _ hk => hk.2) (.slice A145_1 ((rd_T48 l1 x25_1).f1).length c145_1)) (fun _ h_ => h_.1))))) (below_size (by repeat (first | (with_reducible first | exact HB.out | apply below_alloc | apply pw_below_drewN | apply below_drew1 | refine below_set ?_ GE146.out) | exact HB.out)))); have n2_ := Aside0.mk (blk_below (g := gb146) (o := .cells #[.int .i64 ((rd_T48 l1 x25_1).f0), .slice A145_1 ((rd_T48 l1 x25_1).f1).length c145_1] 48 (0, 0)) (by (with_reducible repeat (first | refine blk_drewN ?_ _ | refine blk_drew ?_ | refine blk_alloc ?_ _)); refine blk_put (cs := #[.int .i64 ((rd_T48 l1 x25_1).f0), .slice none 0 0]) ?_ 1 _ rfl; (with_reducible repeat (first | refine blk_drewN ?_ _ | refine blk_drew ?_ | refine blk_alloc ?_ _)); refine blk_put (cs := #[.int .i64 0, .slice none 0 0]) ?_ 0 _ rfl; (with_reducible repeat (first | refine blk_drewN ?_ _ | refine blk_drew ?_ | refine blk_alloc ?_ _)); exact BK146.out) hb); have n3_ := Aside0.mk (below_step (by repeat (first | (with_reducible first | exact HB.out | apply below_alloc | apply pw_below_drewN | apply below_drew1 | refine below_set ?_ GE146.out) | exact HB.out)) hb); clear HO_7; clear BK146; clear HB; have HO_7 := n0_; have HO150 := n1_; have BK146 := n2_; have HB := n3_; clear n0_ n1_ n2_ n3_; (try clear hb); (try clear hb2); (try clear hk); (try clear hi); (try clear ho0)))
            go_ret2
            exact ⟨_, by first | rfl | (simp [errW_none, errW_some] <;> rfl) | (simp [*, errW_none, errW_some] <;> rfl), by first | exact Kd.R_nil _ _ _ _ _ | exact Kd.N_nil _ _ _ _ _ | exact Kd.V_nil _ _ _ _ _ | exact Kd.Q_nil _ _ _ _ _ | exact Kd.S_nil _ _ _ _ _, by repeat (first | (with_reducible first | exact HB.out | apply below_alloc | apply pw_below_drewN | apply below_drew1 | refine below_set ?_ GE146.out) | exact HB.out)⟩
          rw [if_neg c10] at H
          exact absurd H (by simp)
        rw [if_neg c9] at H
        exact absurd H (by simp)
      rw [if_neg c8] at H
      have c8b0 : decide (x25_1 < (l1.length : Int)) = false := decide_eq_false c8
      clear c8
      by_cases c25 : (wrap64 ((wrap64 (6 + (x7_1.length : Int))) + 4)) > 262144
      · rw [if_pos c25] at H
        have c25b0 : decide (262144 < (wrap64 ((wrap64 (6 + (x7_1.length : Int))) + 4))) = true := decide_eq_true c25
        clear c25
        simp only [Option.some.injEq, Prod.mk.injEq] at H
        obtain ⟨rfl, rfl⟩ := H
        obtain ⟨Ao26, co26, eo26⟩ := Kd.R_slice HO_7.out
        subst eo26
        go_wp2
        go_ret2
        exact ⟨_, by first | rfl | (simp [errW_none, errW_some] <;> rfl) | (simp [*, errW_none, errW_some] <;> rfl), by first | exact Kd.R_nil _ _ _ _ _ | exact Kd.N_nil _ _ _ _ _ | exact Kd.V_nil _ _ _ _ _ | exact Kd.Q_nil _ _ _ _ _ | exact Kd.S_nil _ _ _ _ _, by repeat (first | (with_reducible first | exact HB.out | apply below_alloc | apply pw_below_drewN | apply below_drew1) | exact HB.out)⟩
      rw [if_neg c25] at H
      have c25b0 : decide (262144 < (wrap64 ((wrap64 (6 + (x7_1.length : Int))) + 4))) = false := decide_eq_false c25
      clear c25
      obtain ⟨y157, hy157⟩ : ∃ y_ : List Int, y_ = (([73, 80] : List Int)) := ⟨_, rfl⟩
      replace H : ((pack_four.f ((wrap64 ((wrap64 (6 + (x7_1.length : Int))) + 4)) % 4294967296)).bind fun t160 => ((slices_Concat_byte_byte.f k1 (([y157, t160, x7_1] : List (List Int)))).bind fun t166 => ((crc_Of.f k1 t166).bind fun t169 => ((pack_four.f t169).bind fun t170 => (if 0 < t166.length then (if 0 < t170.length then (if t166.length + t170.length < 140737488355328 then (some ((t166 ++ t170), 0)) else (none)) else (none)) else (none)))))) = some (r1, r2) := by first | (rw [hy157]; with_reducible exact H) | (have H2_ := (Option.bind_some _ _).symm.trans H; rw [hy157]; with_reducible exact H2_) | (have H2_ := (Option.bind_some _ _).symm.trans H; with_reducible exact H2_) | with_reducible exact H | (rw [hy157]; exact H) | exact H
      have Ny157 := Aside0.mk hy157
      clear hy157
      replace H := Option.bind_eq_some_iff.mp H
      obtain ⟨t160, A270, H⟩ := H
      replace H : ((slices_Concat_byte_byte.f k1 (([y157, t160, x7_1] : List (List Int)))).bind fun t166 => ((crc_Of.f k1 t166).bind fun t169 => ((pack_four.f t169).bind fun t170 => (if 0 < t166.length then (if 0 < t170.length then (if t166.length + t170.length < 140737488355328 then (some ((t166 ++ t170), 0)) else (none)) else (none)) else (none))))) = some (r1, r2) := H
      have A27 := Aside0.mk A270
      clear A270
      obtain ⟨y163, hy163⟩ : ∃ y_ : List (List Int), y_ = (([y157, t160, x7_1] : List (List Int))) := ⟨_, rfl⟩
      replace H : ((slices_Concat_byte_byte.f k1 y163).bind fun t166 => ((crc_Of.f k1 t166).bind fun t169 => ((pack_four.f t169).bind fun t170 => (if 0 < t166.length then (if 0 < t170.length then (if t166.length + t170.length < 140737488355328 then (some ((t166 ++ t170), 0)) else (none)) else (none)) else (none))))) = some (r1, r2) := by first | (rw [hy163]; with_reducible exact H) | (have H2_ := (Option.bind_some _ _).symm.trans H; rw [hy163]; with_reducible exact H2_) | (have H2_ := (Option.bind_some _ _).symm.trans H; with_reducible exact H2_) | with_reducible exact H | (rw [hy163]; exact H) | exact H
      have Ny163 := Aside0.mk hy163
      clear hy163
      replace H := Option.bind_eq_some_iff.mp H
      obtain ⟨t166, A280, H⟩ := H
      replace H : ((crc_Of.f k1 t166).bind fun t169 => ((pack_four.f t169).bind fun t170 => (if 0 < t166.length then (if 0 < t170.length then (if t166.length + t170.length < 140737488355328 then (some ((t166 ++ t170), 0)) else (none)) else (none)) else (none)))) = some (r1, r2) := H
      have A28 := Aside0.mk A280
      clear A280
      replace H := Option.bind_eq_some_iff.mp H
      obtain ⟨t169, A290, H⟩ := H
      replace H : ((pack_four.f t169).bind fun t170 => (if 0 < t166.length then (if 0 < t170.length then (if t166.length + t170.length < 140737488355328 then (some ((t166 ++ t170), 0)) else (none)) else (none)) else (none))) = some (r1, r2) := H
      have A29 := Aside0.mk A290
      clear A290
      replace H := Option.bind_eq_some_iff.mp H
      obtain ⟨t170, A300, H⟩ := H
      replace H : (if 0 < t166.length then (if 0 < t170.length then (if t166.length + t170.length < 140737488355328 then (some ((t166 ++ t170), 0)) else (none)) else (none)) else (none)) = some (r1, r2) := H
      have A30 := Aside0.mk A300
      clear A300
      by_cases c31 : 0 < t166.length
      · rw [if_pos c31] at H
        have c31b0 := eq_true c31
        have c31b1 : decide (0 < t166.length) = true := decide_eq_true c31
        clear c31
        by_cases c32 : 0 < t170.length
        · rw [if_pos c32] at H
          have c32b0 := eq_true c32
          have c32b1 : decide (0 < t170.length) = true := decide_eq_true c32
          clear c32
          by_cases c33 : t166.length + t170.length < 140737488355328
          · rw [if_pos c33] at H
            have LMc33 := Aside0.mk c33
            clear c33
            obtain ⟨y173, hy173⟩ : ∃ y_ : List Int, y_ = (t166 ++ t170) := ⟨_, rfl⟩
            replace H : (some (y173, 0)) = some (r1, r2) := by first | (rw [hy173]; with_reducible exact H) | (have H2_ := (Option.bind_some _ _).symm.trans H; rw [hy173]; with_reducible exact H2_) | (have H2_ := (Option.bind_some _ _).symm.trans H; with_reducible exact H2_) | with_reducible exact H | (rw [hy173]; exact H) | exact H
            have Ny173 := Aside0.mk hy173
            clear hy173
            simp only [Option.some.injEq, Prod.mk.injEq] at H
            obtain ⟨rfl, rfl⟩ := H
            obtain ⟨Ao34, co34, eo34⟩ := Kd.R_slice HO_7.out
            subst eo34
            try go_wp2_with (first | ((with_reducible refine gate_dst (N := 53) rfl ?_); refine Kd.R_lit (Kd.int .u8) _ 5 ?hg (N := 53) ?hd (xs := ([73, 80] : List Int)) (inner := [.int .u8 73, .int .u8 80]) (ok := fun _ => True) (okp := fun _ => True) ?hr ?hp (fun _ hk => hk) trivial (Below.refl _ _) (Nat.le_refl _) (by simp) ?_; (case hd => rfl); (case hg => rfl); (case hr => first | (go_simp; done) | (go_simp; rfl)); (case hp => exact (Reps.one (show Kd.M (Kd.int .u8) _ _ _ 73 [.int .u8 73] from rfl) (Reps.one (show Kd.M (Kd.int .u8) _ _ _ 80 [.int .u8 80] from rfl) (Reps.none _ _)))); intro v158 w35o ho36 hb hg_ hnew_; clear hg_ hnew_; (first | rw [← Ny157.out] at ho36 | (simp only [Int.reduceToNat] at ho36; rw [← Ny157.out] at ho36)); have n0_ := Aside0.mk (Kd.R_elder' (by (with_reducible repeat (first | apply Kd.R_alloc | apply Kd.R_drewN | apply Kd.R_drew)); exact HO_7.out) (Kd.R_base ho36) hb); have n1_ := Aside0.mk (Kd.R_lower (Kd.R_new' ho36 (Kd.R_lt (by (with_reducible repeat (first | apply Kd.R_alloc | apply Kd.R_drewN | apply Kd.R_drew)); exact HO_7.out))) (below_size (by repeat (first | (with_reducible first | exact HB.out | apply below_alloc | apply pw_below_drewN | apply below_drew1) | exact HB.out)))); have n2_ := Aside0.mk (below_step (by repeat (first | (with_reducible first | exact HB.out | apply below_alloc | apply pw_below_drewN | apply below_drew1) | exact HB.out)) hb); clear HO_7; clear HB; have HO_7 := n0_; have HO159 := n1_; have HB := n2_; clear n0_ n1_ n2_; obtain ⟨w35, HCV_w35, hL_, hbL_, hgL_⟩ := Kd.L_conv' (P := Try.prog) (t := 31) Try.underlying31 Try.underlying5 HO159.out (by rw [Ny157.out]; decide) HB.out (Nat.le_refl _); clear HO159; clear HB; have HO159 := Aside0.mk hL_; have HB := Aside0.mk hbL_; clear hL_ hbL_; have m_ := Aside0.mk (Kd.R_after HO_7.out hgL_ (.inl rfl)); clear HO_7; have HO_7 := m_; clear m_; clear hgL_; clear hb ho36) | ((with_reducible refine gate_callee (f := 36) rfl ?_); refine goesL_ (some 57) rfl rfl Try.func36 (by kernel_rfl) rfl #[.int .u32 ((wrap64 ((wrap64 (6 + (x7_1.length : Int))) + 4)) % 4294967296)] rfl (by (try simp only [List.map_toArray, List.map_cons, List.map_nil]); first | done | rfl | (simp only [List.length_drop, List.length_take]; rfl)) ?_; (with_reducible refine (pack_four.calls ((wrap64 ((wrap64 (6 + (x7_1.length : Int))) + 4)) % 4294967296) t160 _ A27.out).mono ?_); rintro e w37 ⟨v161, rfl, ho0, hb⟩; refine ⟨_, rfl, ?_⟩; have n0_ := Aside0.mk (Kd.R_elder' (by (with_reducible repeat (first | apply Kd.R_alloc | apply Kd.R_drewN | apply Kd.R_drew)); exact HO_7.out) (Kd.R_base ho0) hb); have n1_ := Aside0.mk (Kd.L_elder' (by (with_reducible repeat (first | apply Kd.L_alloc | apply Kd.L_drewN | apply Kd.L_drew)); exact HO159.out) (Kd.R_base ho0) hb); have n2_ := Aside0.mk (Kd.R_lower (Kd.R_new' (Kd.R_new' ho0 (Kd.R_lt (by (with_reducible repeat (first | apply Kd.R_alloc | apply Kd.R_drewN | apply Kd.R_drew)); exact HO_7.out))) (Kd.L_lt (by (with_reducible repeat (first | apply Kd.L_alloc | apply Kd.L_drewN | apply Kd.L_drew)); exact HO159.out))) (below_size (by repeat (first | (with_reducible first | exact HB.out | apply below_alloc | apply pw_below_drewN | apply below_drew1) | exact HB.out)))); have n3_ := Aside0.mk (below_step (by repeat (first | (with_reducible first | exact HB.out | apply below_alloc | apply pw_below_drewN | apply below_drew1) | exact HB.out)) hb); clear HO_7; clear HO159; clear HB; have HO_7 := n0_; have HO159 := n1_; have HO162 := n2_; have HB := n3_; clear n0_ n1_ n2_ n3_; (try clear hb); (try clear hb2); (try clear hk); (try clear hi); (try clear ho0); obtain ⟨Ao38, co38, eo38⟩ := Kd.L_slice HO159.out; subst eo38; obtain ⟨Ao39, co39, eo39⟩ := Kd.R_slice HO162.out; subst eo39) | ((with_reducible refine gate_dst (N := 59) rfl ?_); refine Kd.N_lit (Kd.slice 5 (Kd.int .u8)) _ 31 ?hg (N' := 59) ?hd (xs := ([y157, t160, x7_1] : List (List Int))) (inner := [.slice Ao38 y157.length co38, .slice Ao39 t160.length co39, .slice Ao34 x7_1.length co34]) (ok := (fun _ => True)) (okp := (fun _ => True)) ?hr ?hp (fun _ hk => hk) ((show ∀ k_, w37.heap.size ≤ k_ → (fun _ => True) k_ from fun k_ hk => trivial) _ (Nat.le_refl _)) (Below.refl _ _) (Nat.le_refl _) (by simp) ?_; (case hd => rfl); (case hg => rfl); (case hr => first | (go_simp; done) | (go_simp; rfl)); (case hp => exact (Reps.one (show Kd.FK (Kd.slice 5 (Kd.int .u8)) _ _ y157 [.slice Ao38 y157.length co38] from (Kd.FK_slice_mk (Kd.L_reads' (Kd.L_mono (ok' := (fun _ => True)) (HO159.out) (fun k_ hk => trivial))).2.1 (Kd.L_F (Kd.L_mono (ok' := (fun _ => True)) (HO159.out) (fun k_ hk => trivial))))) (Reps.one (show Kd.FK (Kd.slice 5 (Kd.int .u8)) _ _ t160 [.slice Ao39 t160.length co39] from (Kd.FK_slice_mk (Kd.R_reads' (Kd.R_mono (ok' := (fun _ => True)) (HO162.out) (fun k_ hk => trivial))).2.1 (Kd.R_F (Kd.R_mono (ok' := (fun _ => True)) (HO162.out) (fun k_ hk => trivial))))) (Reps.one (show Kd.FK (Kd.slice 5 (Kd.int .u8)) _ _ x7_1 [.slice Ao34 x7_1.length co34] from (Kd.FK_slice_mk (Kd.R_reads' (Kd.R_mono (ok' := (fun _ => True)) (HO_7.out) (fun k_ hk => trivial))).2.1 (Kd.R_F (Kd.R_mono (ok' := (fun _ => True)) (HO_7.out) (fun k_ hk => trivial))))) (Reps.none _ _))))); intro v164 w40 ho41 hb hg_ hnew_; clear hg_ hnew_; (first | rw [← Ny163.out] at ho41 | (simp only [Int.reduceToNat] at ho41; rw [← Ny163.out] at ho41)); have n0_ := Aside0.mk (Kd.N_lower ho41 (below_size (by repeat (first | (with_reducible first | exact HB.out | apply below_alloc | apply pw_below_drewN | apply below_drew1) | exact HB.out)))); have n1_ := Aside0.mk (below_step (by repeat (first | (with_reducible first | exact HB.out | apply below_alloc | apply pw_below_drewN | apply below_drew1) | exact HB.out)) hb); clear HB; clear HO159; clear HO162; clear HO_7; have HO165 := n0_; have HB := n1_; clear n0_ n1_; clear hb ho41; obtain ⟨Ao42, co42, eo42⟩ := Kd.N_slice HO165.out; subst eo42) | ((with_reducible refine gate_callee (f := 35) rfl ?_); refine goesL_ (some 60) rfl rfl Try.func35 (by kernel_rfl) rfl #[.slice Ao42 y163.length co42] rfl (by (try simp only [List.map_toArray, List.map_cons, List.map_nil]); first | done | rfl | (simp only [List.length_drop, List.length_take]; rfl)) ?_; (with_reducible refine (slices_Concat_byte_byte.calls k1 _ _ y163 t166 _ ?side1 ?side2 A28.out).mono ?_); (case side1 => repeat (first | exact (Kd.N_reads' HO165.out).2.2 | (with_reducible refine Kd.C_alloc ?_ _) | (with_reducible refine Kd.C_drewN ?_ _) | (with_reducible refine Kd.C_drew ?_))); (case side2 => exact (Kd.N_reads' HO165.out).2.1); rintro e w43 ⟨v167, rfl, ho0, hb⟩; refine ⟨_, rfl, ?_⟩; have n0_ := Aside0.mk (Kd.N_elder' (by (with_reducible repeat (first | apply Kd.N_alloc | apply Kd.N_drewN | apply Kd.N_drew)); exact HO165.out) (Kd.R_base ho0) hb); have n1_ := Aside0.mk (Kd.R_lower ho0 (below_size (by repeat (first | (with_reducible first | exact HB.out | apply below_alloc | apply pw_below_drewN | apply below_drew1) | exact HB.out)))); have n2_ := Aside0.mk (below_step (by repeat (first | (with_reducible first | exact HB.out | apply below_alloc | apply pw_below_drewN | apply below_drew1) | exact HB.out)) hb); clear HO165; clear HB; have HO165 := n0_; have HO168 := n1_; have HB := n2_; clear n0_ n1_ n2_; (try clear hb); (try clear hb2); (try clear hk); (try clear hi); (try clear ho0)))
            have n0_ := Aside0.mk (Kd.N_drew HO165.out)
            have n1_ := Aside0.mk (Kd.R_drew HO168.out)
            have n2_ := Aside0.mk (below_drew1 HB.out)
            clear HO165
            clear HO168
            clear HB
            have HO165 := n0_
            have HO168 := n1_
            have HB := n2_
            clear n0_ n1_ n2_
            obtain ⟨Ao45, co45, eo45⟩ := Kd.R_slice HO168.out
            (first | subst eo45 | (injection eo45 with f1_ f2_ f3_; have f4_ := f1_.symm; have f5_ := f3_.symm; clear f1_ f2_ f3_; subst f4_; subst f5_))
            obtain ⟨i046, hi046, _, _, _⟩ := info_parts info5
            have hcut46 := cut_full (P := Try.prog) 31 5 Try.underlying31 hi046 Ao45 t166.length co45 (Kd.R_reads' HO168.out).2.1
            clear hi046
            refine start_ (n := 12) (S := fun w' => True) (ds := []) #[false, false, false, false, false, false, false, false, false, false, false, false] (by kernel_rfl) rfl rfl trivial (fun hHeld => ?_); refine with_tabW pack_Pack.tab17 pack_Pack.bits17 (fun HT_ HW_ => ?_)
            generalize w43.drew = w44 at HO165 HO168 HB hHeld ⊢
            refine pure_ (i := 0) (N := some 61) (v := ?_) (a' := ?_) #[true, false, false, false, false, false, false, false, false, false, false, false] rfl rfl (any_of HT_.out (by kernel_rfl)) (fun _ _ _ h => h) (Or.inl ⟨by rfl, ?_⟩) ?_ ?_
            rotate_left
            · intro w'
              go_simp
              with_reducible rfl
            rotate_left
            · simp only [Act.put, List.setIfInBounds_toArray, List.set_cons_zero, List.set_cons_succ, i64_w, i32_w]
              rfl
            refine pure_ (i := 1) (N := some 62) (v := ?_) (a' := ?_) #[true, true, false, false, false, false, false, false, false, false, false, false] rfl rfl (any_of HT_.out (by kernel_rfl)) (fun _ _ _ h => h) (Or.inl ⟨by rfl, ?_⟩) ?_ ?_
            rotate_left
            · intro w'
              go_simp
              with_reducible rfl
            rotate_left
            · simp only [Act.put, List.setIfInBounds_toArray, List.set_cons_zero, List.set_cons_succ, i64_w, i32_w]
              rfl
            refine pure_ (i := 2) (N := some 63) (v := ?_) (a' := ?_) #[true, true, true, false, false, false, false, false, false, false, false, false] rfl rfl (any_of HT_.out (by kernel_rfl)) (fun _ _ _ h => h) (Or.inl ⟨by rfl, ?_⟩) ?_ ?_
            rotate_left
            · intro w'
              go_simp
              with_reducible rfl
            rotate_left
            · simp only [Act.put, List.setIfInBounds_toArray, List.set_cons_zero, List.set_cons_succ, i64_w, i32_w]
              rfl
            refine pure_ (i := 3) (N := some 64) (v := ?_) (a' := ?_) #[true, true, true, true, false, false, false, false, false, false, false, false] rfl rfl (any_of HT_.out (by kernel_rfl)) (fun _ _ _ h => h) (Or.inl ⟨by rfl, ?_⟩) ?_ ?_
            rotate_left
            · intro w'
              go_simp
              with_reducible rfl
            rotate_left
            · simp only [Act.put, List.setIfInBounds_toArray, List.set_cons_zero, List.set_cons_succ, i64_w, i32_w]
              rfl
            refine pure_ (i := 4) (N := some 65) (v := ?_) (a' := ?_) #[true, true, true, true, true, false, false, false, false, false, false, false] rfl rfl (any_of HT_.out (by kernel_rfl)) (fun _ _ _ h => h) (Or.inl ⟨by rfl, ?_⟩) ?_ ?_
            rotate_left
            · intro w'
              go_simp
              with_reducible rfl
            rotate_left
            · simp only [Act.put, List.setIfInBounds_toArray, List.set_cons_zero, List.set_cons_succ, i64_w, i32_w]
              rfl
            refine pure_ (i := 5) (N := some 66) (v := ?_) (a' := ?_) #[true, true, true, true, true, true, false, false, false, false, false, false] rfl rfl (any_of HT_.out (by kernel_rfl)) (fun _ _ _ h => h) (Or.inl ⟨by rfl, ?_⟩) ?_ ?_
            rotate_left
            · intro w'
              go_simp
              with_reducible rfl
            rotate_left
            · simp only [Act.put, List.setIfInBounds_toArray, List.set_cons_zero, List.set_cons_succ, i64_w, i32_w]
              rfl
            refine pure_ (i := 6) (N := some 67) (v := ?_) (a' := ?_) #[true, true, true, true, true, true, true, false, false, false, false, false] rfl rfl (any_of HT_.out (by kernel_rfl)) (fun _ _ _ h => h) (Or.inl ⟨by rfl, ?_⟩) ?_ ?_
            rotate_left
            · intro w'
              go_simp
              with_reducible rfl
            rotate_left
            · simp only [Act.put, List.setIfInBounds_toArray, List.set_cons_zero, List.set_cons_succ, i64_w, i32_w]
              rfl
            refine one_ (i := 7) (N := some 68) #[true, true, true, true, true, true, true, true, false, false, false, false] rfl rfl (one_of HT_.out (by kernel_rfl)) (by decide) (fun K hK => ?_)
            refine goes_ Try.func37 (by kernel_rfl) rfl #[.slice Ao45 t166.length co45] (by rfl) rfl rfl (by (try simp only [List.map_toArray, List.map_cons, List.map_nil]); first | done | rfl | (simp only [List.length_drop, List.length_take]; rfl)) ?_
            with_reducible refine (crc_Of.calls k1 _ _ t166 t169 _ ?side1 ?side2 A29.out).mono ?_
            (case side1 => repeat (first | exact (Kd.R_reads' HO168.out).2.2 | (with_reducible refine Kd.C_alloc ?_ _) | (with_reducible refine Kd.C_drewN ?_ _) | (with_reducible refine Kd.C_drew ?_)))
            (case side2 => exact (Kd.R_reads' HO168.out).2.1)
            rintro e w47 ⟨rfl, hb⟩
            refine ⟨_, rfl, ?_⟩
            have n0_ := Aside0.mk (Kd.N_below (by (with_reducible repeat (first | apply Kd.N_alloc | apply Kd.N_drewN | apply Kd.N_drew)); exact HO165.out) hb)
            have n1_ := Aside0.mk (Kd.R_below (by (with_reducible repeat (first | apply Kd.R_alloc | apply Kd.R_drewN | apply Kd.R_drew)); exact HO168.out) hb)
            have n2_ := Aside0.mk (below_step (by repeat (first | (with_reducible first | exact HB.out | apply below_alloc | apply pw_below_drewN | apply below_drew1) | exact HB.out)) hb)
            clear HO165
            clear HO168
            clear HB
            have HO165 := n0_
            have HO168 := n1_
            have HB := n2_
            clear n0_ n1_ n2_
            (try clear hb)
            (try clear hb2)
            (try clear hk)
            (try clear hi)
            refine hK.out _ _ trivial (fun hHeld => ?_)
            clear hK K
            refine norm_ (a' := ?_) ?_ ?_
            rotate_left
            · show Act.put _ (some 68) _ = _
              simp only [Act.put, List.setIfInBounds_toArray, List.set_cons_zero, List.set_cons_succ, i64_w, i32_w]
              rfl
            refine one_ (i := 8) (N := some 69) #[true, true, true, true, true, true, true, true, true, false, false, false] rfl rfl (one_of HT_.out (by kernel_rfl)) (by decide) (fun K hK => ?_)
            refine goes_ Try.func36 (by kernel_rfl) rfl #[.int .u32 t169] (by rfl) rfl rfl (by (try simp only [List.map_toArray, List.map_cons, List.map_nil]); first | done | rfl | (simp only [List.length_drop, List.length_take]; rfl)) ?_
            with_reducible refine (pack_four.calls t169 t170 _ A30.out).mono ?_
            rintro e w48 ⟨v171, rfl, ho0, hb⟩
            refine ⟨_, rfl, ?_⟩
            have n0_ := Aside0.mk (Kd.N_elder' (by (with_reducible repeat (first | apply Kd.N_alloc | apply Kd.N_drewN | apply Kd.N_drew)); exact HO165.out) (Kd.R_base ho0) hb)
            have n1_ := Aside0.mk (Kd.R_elder' (by (with_reducible repeat (first | apply Kd.R_alloc | apply Kd.R_drewN | apply Kd.R_drew)); exact HO168.out) (Kd.R_base ho0) hb)
            have n2_ := Aside0.mk (Kd.R_lower (Kd.R_new' ho0 (Kd.R_lt (by (with_reducible repeat (first | apply Kd.R_alloc | apply Kd.R_drewN | apply Kd.R_drew)); exact HO168.out))) (below_size (by repeat (first | (with_reducible first | exact HB.out | apply below_alloc | apply pw_below_drewN | apply below_drew1) | exact HB.out))))
            have n3_ := Aside0.mk (below_step (by repeat (first | (with_reducible first | exact HB.out | apply below_alloc | apply pw_below_drewN | apply below_drew1) | exact HB.out)) hb)
            clear HO165
            clear HO168
            clear HB
            have HO165 := n0_
            have HO168 := n1_
            have HO172 := n2_
            have HB := n3_
            clear n0_ n1_ n2_ n3_
            (try clear hb)
            (try clear hb2)
            (try clear hk)
            (try clear hi)
            (try clear ho0)
            obtain ⟨Ao50, co50, eo50⟩ := Kd.R_slice HO172.out
            (first | subst eo50 | (injection eo50 with f1_ f2_ f3_; have f4_ := f1_.symm; have f5_ := f3_.symm; clear f1_ f2_ f3_; subst f4_; subst f5_))
            refine hK.out _ _ trivial (fun hHeld => ?_)
            clear hK K
            refine norm_ (a' := ?_) ?_ ?_
            rotate_left
            · show Act.put _ (some 69) _ = _
              simp only [Act.put, List.setIfInBounds_toArray, List.set_cons_zero, List.set_cons_succ, i64_w, i32_w]
              rfl
            refine one_ (i := 9) (N := some 70) #[true, true, true, true, true, true, true, true, true, true, false, false] rfl rfl (one_of HT_.out (by kernel_rfl)) (by decide) (fun K hK => ?_)
            refine Kd.R_append_full_step (w0 := w) w.heap.size (by rfl) (.tmp 66) (.tmp 69) 31 5 (.int .u8 0) 1 rfl Try.underlying31 info5 rfl (by omega) Ao45 t166.length co45 t166 t170 _ _ _ (fun k_ => some k_ ≠ (.slice Ao50 t170.length co50 : Value).ownBlock) rfl rfl ?aO ?aR (of_decide_eq_true (by first | (with_reducible assumption) | assumption)) (of_decide_eq_true (by first | (with_reducible assumption) | assumption)) ?aF ?aB ?aS ?aL ?_
            (case aR => repeat (first | exact (Kd.R_reads' HO172.out).2.2 | (with_reducible refine Kd.C_alloc ?_ _) | (with_reducible refine Kd.C_drewN ?_ _) | (with_reducible refine Kd.C_drew ?_)))
            (case aB => exact (by repeat (first | (with_reducible first | exact HB.out | apply below_alloc | apply pw_below_drewN | apply below_drew1) | exact HB.out)))
            (case aF => exact (fun k_ hk => Kd.fresh' (Kd.R_lt (by (with_reducible repeat (first | apply Kd.R_alloc | apply Kd.R_drewN | apply Kd.R_drew)); exact HO172.out)) k_ hk))
            (case aO => exact (by (with_reducible repeat (first | apply Kd.R_alloc | apply Kd.R_drewN | apply Kd.R_drew)); exact Kd.R_mono HO168.out (fun _ hk => hk.2)))
            (case aS => exact (below_size (by repeat (first | (with_reducible first | exact HB.out | apply below_alloc | apply pw_below_drewN | apply below_drew1) | exact HB.out))))
            (case aL => have := LMc33.out; omega)
            intro v174 w49 ho hb hg hat
            rw [← Ny173.out] at ho
            have n0_ := Aside0.mk (Kd.N_afterv (ok := (fun k_ => some k_ ≠ (.slice Ao50 t170.length co50 : Value).ownBlock)) (by (with_reducible repeat (first | apply Kd.N_alloc | apply Kd.N_drewN | apply Kd.N_drew)); exact Kd.N_mono HO165.out (fun _ hk => ⟨hk.2, hk.1.2⟩)) hg hat)
            have n1_ := Aside0.mk (Kd.R_after (ok := (fun _ => True)) (by (with_reducible repeat (first | apply Kd.R_alloc | apply Kd.R_drewN | apply Kd.R_drew)); exact HO172.out) hg hat)
            have n2_ := Aside0.mk (hb)
            have n3_ := Aside0.mk (ho)
            clear HO165
            clear HO172
            clear HB
            clear HO168
            have HO165 := n0_
            have HO172 := n1_
            have HB := n2_
            have HO175 := n3_
            clear n0_ n1_ n2_ n3_
            clear ho hb hg hat
            refine hK.out _ _ trivial (fun hHeld => ?_)
            clear hK K
            refine norm_ (a' := ?_) ?_ ?_
            rotate_left
            · show Act.put _ (some 70) _ = _
              simp only [Act.put, List.setIfInBounds_toArray, List.set_cons_zero, List.set_cons_succ, i64_w, i32_w]
              rfl
            refine pure_ (i := 10) (N := some 4) (v := ?_) (a' := ?_) #[true, true, true, true, true, true, true, true, true, true, true, false] rfl rfl (any_of HT_.out (by kernel_rfl)) (fun _ _ _ h => h) (Or.inl ⟨by rfl, ?_⟩) ?_ ?_
            rotate_left
            · intro w'
              go_simp
              with_reducible rfl
            rotate_left
            · simp only [Act.put, List.setIfInBounds_toArray, List.set_cons_zero, List.set_cons_succ, i64_w, i32_w]
              rfl
            refine pure_ (i := 11) (N := some 5) (v := ?_) (a' := ?_) #[true, true, true, true, true, true, true, true, true, true, true, true] rfl rfl (any_of HT_.out (by kernel_rfl)) (fun _ _ _ h => h) (Or.inl ⟨by rfl, ?_⟩) ?_ ?_
            rotate_left
            · intro w'
              go_simp
              with_reducible rfl
            rotate_left
            · simp only [Act.put, List.setIfInBounds_toArray, List.set_cons_zero, List.set_cons_succ, i64_w, i32_w]
              rfl
            refine done_ (done_of HT_.out (by kernel_rfl)) ?_
            try go_wp2
            go_ret2
            exact ⟨_, by first | rfl | (simp [errW_none, errW_some] <;> rfl) | (simp [*, errW_none, errW_some] <;> rfl), by (with_reducible repeat (first | apply Kd.R_alloc | apply Kd.R_drewN | apply Kd.R_drew)); exact Kd.R_mono HO175.out (fun _ hk => trivial), by repeat (first | (with_reducible first | exact HB.out | apply below_alloc | apply pw_below_drewN | apply below_drew1) | exact HB.out)⟩
          rw [if_neg c33] at H
          exact absurd H (by simp)
        rw [if_neg c32] at H
        exact absurd H (by simp)
      rw [if_neg c31] at H
      exact absurd H (by simp)
  rw [if_neg c4] at H
  have c4b0 : (t141 == 0) = false := beq_eq_false_iff_ne.mpr c4
  have c4b1 : (t141 != 0) = true := bne_iff_ne.mpr c4
  simp only [Option.some.injEq, Prod.mk.injEq] at H
  obtain ⟨rfl, rfl⟩ := H
  go_enter Try.func16, Try.ntmps16
  go_wp2_with (first | ((with_reducible refine gate_callee (f := 33) rfl ?_); refine goesL_ (some 16) rfl rfl Try.func33 (by kernel_rfl) rfl #[.int .i64 a0, .slice A1 l1.length c1] rfl (by (try simp only [List.map_toArray, List.map_cons, List.map_nil]); first | done | rfl | (simp only [List.length_drop, List.length_take]; rfl)) ?_; (with_reducible refine (pack_check.calls k a0 _ _ l1 t141 _ ?side1 ?side2 A3.out).mono ?_); (case side1 => repeat (first | exact HR1.out | (with_reducible refine Kd.C_alloc ?_ _) | (with_reducible refine Kd.C_drewN ?_ _) | (with_reducible refine Kd.C_drew ?_))); (case side2 => exact HC1.out); rintro e w51 ⟨rfl, hb⟩; refine ⟨_, rfl, ?_⟩; have n0_ := Aside0.mk (below_step (by repeat (first | (with_reducible first | exact HB.out | apply below_alloc | apply pw_below_drewN | apply below_drew1) | exact HB.out)) hb); clear HB; have HB := n0_; clear n0_; (try clear hb); (try clear hb2); (try clear hk); (try clear hi)))
  go_ret2
  exact ⟨_, by first | rfl | (simp [errW_none, errW_some] <;> rfl) | (simp [*, errW_none, errW_some] <;> rfl), by first | exact Kd.R_nil _ _ _ _ _ | exact Kd.N_nil _ _ _ _ _ | exact Kd.V_nil _ _ _ _ _ | exact Kd.Q_nil _ _ _ _ _ | exact Kd.S_nil _ _ _ _ _, by repeat (first | (with_reducible first | exact HB.out | apply below_alloc | apply pw_below_drewN | apply below_drew1) | exact HB.out)⟩
end Go.Proofs.Ytkeekganabafbaa.X
end
section
namespace Go.Proofs.Ytkeekganabafbaa.X
open Go.RowKit Go.Proofs.YtkeekganabafbaaW.PrintWords Go.Proofs.YtkeekganabafbaaW.PrintLast Go.Proofs.YtkeekganabafbaaW.PrintMore
attribute [local go_sem] max2_int min2_int max_two min_two max_three min_three max_four min_four   -- for this text's walks alone
set_option linter.unusedVariables false
set_option linter.unusedSimpArgs false
theorem eqA38 (d : Nat) (w : World) (x0 y0 : Int) (x1 y1 : Int) :
    (Op.equalIn (d + 2) 38 (.agg #[.int .i64 x0, .int .i64 x1]) (.agg #[.int .i64 y0, .int .i64 y1])).run Try.prog w = .ok (x0 == y0 && (x1 == y1)) w := by
  refine eqA_of Try.underlying38 (by kernel_rfl) ?_
  refine eqf_cons (by rfl) (by go_simp; rfl) (by go_simp; rfl) (by go_simp) ?_
  exact eqf_last (by rfl) (by go_simp; rfl) (by go_simp; rfl) (by go_simp)
end Go.Proofs.Ytkeekganabafbaa.X
end
section
namespace Go.Proofs.Ytkeekganabafbaa.X
open Go.RowKit Go.Proofs.YtkeekganabafbaaW.PrintWords Go.Proofs.YtkeekganabafbaaW.PrintLast Go.Proofs.YtkeekganabafbaaW.PrintMore
attribute [local go_sem] max2_int min2_int max_two min_two max_three min_three max_four min_four   -- for this text's walks alone
set_option linter.unusedVariables false
set_option linter.unusedSimpArgs false
attribute [local go_sem high] eqA38
def api_Act_29.l0 : Nat → List (S38) → List (S38) → Int → Int → Option (Bool)
  | 0, _, _, _, _ => none
  | k + 1, x0, x1, x12, x13 => if x13 < x12 then (if 0 ≤ x13 then (if x13 < (x0.length : Int) then (if x13 < (x1.length : Int) then (if (!(((rd_T38 x0 x13).f0) == ((rd_T38 x1 x13).f0)) || (!(((rd_T38 x0 x13).f1) == ((rd_T38 x1 x13).f1)))) = true then (some false) else (api_Act_29.l0 k x0 x1 x12 (wrap64 (x13 + 1)))) else (none)) else (none)) else (none)) else (some true)
def api_Act_29.f (k : Nat) (l0 : List (S38)) (l1 : List (S38)) : Option (Bool) := if (l0.length : Int) = (l1.length : Int) then (api_Act_29.l0 k l0 l1 (l0.length : Int) 0) else (some false)
theorem api_Act_29.mono_l : ∀ k, (∀ y0 y1 y2 y3, LeO (api_Act_29.l0 k y0 y1 y2 y3) (api_Act_29.l0 (k + 1) y0 y1 y2 y3))
  | 0 => fun _ _ _ _ r h => by simp [api_Act_29.l0] at h
  | k + 1 => by
    have ih0 := api_Act_29.mono_l k
    · intro y0 y1 y2 y3
      unfold api_Act_29.l0
      repeat' first
      | (with_reducible exact ih0 _ _ _ _)
      | (with_reducible exact LeO.refl _)
      | (with_reducible exact LeO.none _)
      | (with_reducible refine LeO.ite ?_ ?_)
      | (with_reducible refine LeO.bind ?_ (fun _ => ?_))
      | exact ih0 _ _ _ _
      | exact LeO.none _
      | refine LeO.ite ?_ ?_
      | refine LeO.bind ?_ (fun _ => ?_)
theorem api_Act_29.mono : ∀ a0 a1 k, LeO (api_Act_29.f k a0 a1) (api_Act_29.f (k + 1) a0 a1) := by
  intro a0 a1 k
  have ih0 := api_Act_29.mono_l k
  unfold api_Act_29.f
  repeat' first
      | (with_reducible exact ih0 _ _ _ _)
      | (with_reducible exact LeO.refl _)
      | (with_reducible exact LeO.none _)
      | (with_reducible refine LeO.ite ?_ ?_)
      | (with_reducible refine LeO.bind ?_ (fun _ => ?_))
      | exact ih0 _ _ _ _
      | exact LeO.none _
      | refine LeO.ite ?_ ?_
      | refine LeO.bind ?_ (fun _ => ?_)
set_option maxHeartbeats 8000000 in
set_option maxRecDepth 100000 in
theorem api_Act_29.calls (k : Nat) (A0 : Option Addr) (c0 : Nat) (l0 : List (S38)) (A1 : Option Addr) (c1 : Nat) (l1 : List (S38)) (r : Bool) (w : World) (hr0 : Kd.C k38 w A0 l0.length l0) (hc0 : l0.length ≤ c0) (hr1 : Kd.C k38 w A1 l1.length l1) (hc1 : l1.length ≤ c1) (h : api_Act_29.f k l0 l1 = some r) :
    Calls Try.prog 29 #[.slice A0 l0.length c0, .slice A1 l1.length c1] w fun e w' => e = .returned (.bool r) ∧ Drawn0 w w' := by
  have hu38 := Try.underlying38
  have HR0 := Aside0.mk hr0
  have HC0 := Aside0.mk hc0
  clear hr0 hc0
  have HR1 := Aside0.mk hr1
  have HC1 := Aside0.mk hc1
  clear hr1 hc1
  have H : (if (l0.length : Int) = (l1.length : Int) then (api_Act_29.l0 k l0 l1 (l0.length : Int) 0) else (some false)) = some r := h
  clear h
  by_cases c3 : (l0.length : Int) = (l1.length : Int)
  · rw [if_pos c3] at H
    have c3b0 : ((l0.length : Int) == (l1.length : Int)) = true := beq_iff_eq.mpr c3
    have c3b1 : ((l0.length : Int) != (l1.length : Int)) = false := bne_eq_false_iff_eq.mpr c3
    have c3b2 : (l0.length == l1.length) = true := by first | simpa using c3 | (simp at c3 ⊢; omega)
    clear c3
    have H' := Aside0.mk H
    clear H
    go_enter Try.func29, Try.ntmps29
    go_wp2
    repeat (go_quiet (fail); try go_wp2)
    go_loopg [13] k (fun kq v13 w' => ∃ (x13_1 : Int), v13 = .int .i64 x13_1 ∧ Aside0 (api_Act_29.l0 kq l0 l1 (l0.length : Int) x13_1 = some r) ∧ Aside0 (kq ≤ k) ∧ Drawn0 w w')
    case atStart => exact ⟨(0), (by first | rfl | (simp; done) | (simp [*]; done)), H', ⟨Nat.le_refl _⟩, by repeat (first | exact Drawn0.refl _ | apply Drawn0.step)⟩
    clear H'
    try clear c1
    try clear c2
    try clear p2
    try clear c3
    try clear c3b0
    try clear c3b1
    try clear c3b2
    obtain ⟨x13_1, rfl, HA, HK1, ⟨m1, rfl⟩⟩ := hrel
    cases gk with
    | zero => exact absurd HA.out (by simp [api_Act_29.l0])
    | succ k1 =>
      have H := HA.out
      clear HA
      simp only [api_Act_29.l0] at H
      by_cases c4 : x13_1 < (l0.length : Int)
      · rw [if_pos c4] at H
        have c4b0 : decide (x13_1 < (l0.length : Int)) = true := decide_eq_true c4
        clear c4
        by_cases c5 : 0 ≤ x13_1
        · rw [if_pos c5] at H
          have c5b0 : decide (0 ≤ x13_1) = true := decide_eq_true c5
          clear c5
          by_cases c6 : x13_1 < (l0.length : Int)
          · rw [if_pos c6] at H
            have c6b0 : decide (x13_1 < (l0.length : Int)) = true := decide_eq_true c6
            clear c6
            by_cases c7 : x13_1 < (l1.length : Int)
            · rw [if_pos c7] at H
              have c7b0 : decide (x13_1 < (l1.length : Int)) = true := decide_eq_true c7
              clear c7
              by_cases c8 : (!(((rd_T38 l0 x13_1).f0) == ((rd_T38 l1 x13_1).f0)) || (!(((rd_T38 l0 x13_1).f1) == ((rd_T38 l1 x13_1).f1)))) = true
              · rw [if_pos c8] at H
                have c8b0 : (!(((rd_T38 l0 x13_1).f0) == ((rd_T38 l1 x13_1).f0)) || (!(((rd_T38 l0 x13_1).f1) == ((rd_T38 l1 x13_1).f1)))) = true := c8
                clear c8
                obtain rfl := Option.some.inj H
                have p195 : 0 ≤ (x13_1 : Int) := of_decide_eq_true (by first | (with_reducible assumption) | assumption)
                have q195 : x13_1 < (l0.length : Int) := of_decide_eq_true (by first | (with_reducible assumption) | assumption)
                obtain ⟨ad195, e195, hx195_0, hx195_1⟩ := at_T38 HR0.out x13_1 p195 q195
                cases e195
                replace p195 := eq_true p195
                replace q195 := eq_true q195
                have p196 : 0 ≤ (x13_1 : Int) := of_decide_eq_true (by first | (with_reducible assumption) | assumption)
                have q196 : x13_1 < (l1.length : Int) := of_decide_eq_true (by first | (with_reducible assumption) | assumption)
                obtain ⟨ad196, e196, hx196_0, hx196_1⟩ := at_T38 HR1.out x13_1 p196 q196
                cases e196
                replace p196 := eq_true p196
                replace q196 := eq_true q196
                go_wp2
                repeat (go_quiet (fail); try go_wp2)
                go_ret
                exact ⟨by first | rfl | (simp; done) | (simp [*]; done), by repeat (first | exact Drawn0.refl _ | apply Drawn0.step)⟩
              rw [if_neg c8] at H
              have c8b0 : (!(((rd_T38 l0 x13_1).f0) == ((rd_T38 l1 x13_1).f0)) || (!(((rd_T38 l0 x13_1).f1) == ((rd_T38 l1 x13_1).f1)))) = false := by simpa using c8
              clear c8
              have H' := Aside0.mk H
              clear H
              have p195 : 0 ≤ (x13_1 : Int) := of_decide_eq_true (by first | (with_reducible assumption) | assumption)
              have q195 : x13_1 < (l0.length : Int) := of_decide_eq_true (by first | (with_reducible assumption) | assumption)
              obtain ⟨ad195, e195, hx195_0, hx195_1⟩ := at_T38 HR0.out x13_1 p195 q195
              cases e195
              replace p195 := eq_true p195
              replace q195 := eq_true q195
              have p196 : 0 ≤ (x13_1 : Int) := of_decide_eq_true (by first | (with_reducible assumption) | assumption)
              have q196 : x13_1 < (l1.length : Int) := of_decide_eq_true (by first | (with_reducible assumption) | assumption)
              obtain ⟨ad196, e196, hx196_0, hx196_1⟩ := at_T38 HR1.out x13_1 p196 q196
              cases e196
              replace p196 := eq_true p196
              replace q196 := eq_true q196
              go_wp2
              repeat (go_quiet (fail); try go_wp2)
              go_roundg k1
              case measure => have := HK1.out; omega
              case rel => exact ⟨(wrap64 (x13_1 + 1)), (by first | rfl | (simp; done) | (simp [*]; done)), H', ⟨by have := HK1.out; omega⟩, by repeat (first | exact Drawn0.refl _ | apply Drawn0.step)⟩
            rw [if_neg c7] at H
            exact absurd H (by simp)
          rw [if_neg c6] at H
          exact absurd H (by simp)
        rw [if_neg c5] at H
        exact absurd H (by simp)
      rw [if_neg c4] at H
      have c4b0 : decide (x13_1 < (l0.length : Int)) = false := decide_eq_false c4
      clear c4
      obtain rfl := Option.some.inj H
      go_wp2
      repeat (go_quiet (fail); try go_wp2)
      go_ret
      exact ⟨by first | rfl | (simp; done) | (simp [*]; done), by repeat (first | exact Drawn0.refl _ | apply Drawn0.step)⟩
  rw [if_neg c3] at H
  have c3b0 : ((l0.length : Int) == (l1.length : Int)) = false := beq_eq_false_iff_ne.mpr c3
  have c3b1 : ((l0.length : Int) != (l1.length : Int)) = true := bne_iff_ne.mpr c3
  have c3b2 : (l0.length == l1.length) = false := by first | simpa using c3 | (simp at c3 ⊢; omega)
  obtain rfl := Option.some.inj H
  go_enter Try.func29, Try.ntmps29
  go_wp2
  repeat (go_quiet (fail); try go_wp2)
  go_ret
  exact ⟨by first | rfl | (simp; done) | (simp [*]; done), by repeat (first | exact Drawn0.refl _ | apply Drawn0.step)⟩
def incunableref00_EqBytes.l0 : Nat → List Int → List Int → Int → Option (Bool)
  | 0, _, _, _ => none
  | k + 1, x0, x1, x5 => if x5 < (x0.length : Int) then (if 0 ≤ x5 then (if x5 < (x1.length : Int) then (if (rd x0 x5) = (rd x1 x5) then (incunableref00_EqBytes.l0 k x0 x1 (wrap64 (x5 + 1))) else (some false)) else (none)) else (none)) else (some true)
def incunableref00_EqBytes.f (k : Nat) (l0 : List Int) (l1 : List Int) : Option (Bool) := if (l0.length : Int) = (l1.length : Int) then (incunableref00_EqBytes.l0 k l0 l1 0) else (some false)
theorem incunableref00_EqBytes.mono_l : ∀ k, (∀ y0 y1 y2, LeO (incunableref00_EqBytes.l0 k y0 y1 y2) (incunableref00_EqBytes.l0 (k + 1) y0 y1 y2))
  | 0 => fun _ _ _ r h => by simp [incunableref00_EqBytes.l0] at h
  | k + 1 => by
    have ih0 := incunableref00_EqBytes.mono_l k
    · intro y0 y1 y2
      unfold incunableref00_EqBytes.l0
      repeat' first
      | (with_reducible exact ih0 _ _ _)
      | (with_reducible exact LeO.refl _)
      | (with_reducible exact LeO.none _)
      | (with_reducible refine LeO.ite ?_ ?_)
      | (with_reducible refine LeO.bind ?_ (fun _ => ?_))
      | exact ih0 _ _ _
      | exact LeO.none _
      | refine LeO.ite ?_ ?_
      | refine LeO.bind ?_ (fun _ => ?_)
theorem incunableref00_EqBytes.mono : ∀ a0 a1 k, LeO (incunableref00_EqBytes.f k a0 a1) (incunableref00_EqBytes.f (k + 1) a0 a1) := by
  intro a0 a1 k
  have ih0 := incunableref00_EqBytes.mono_l k
  unfold incunableref00_EqBytes.f
  repeat' first
      | (with_reducible exact ih0 _ _ _)
      | (with_reducible exact LeO.refl _)
      | (with_reducible exact LeO.none _)
      | (with_reducible refine LeO.ite ?_ ?_)
      | (with_reducible refine LeO.bind ?_ (fun _ => ?_))
      | exact ih0 _ _ _
      | exact LeO.none _
      | refine LeO.ite ?_ ?_
      | refine LeO.bind ?_ (fun _ => ?_)
set_option maxHeartbeats 8000000 in
set_option maxRecDepth 100000 in
theorem incunableref00_EqBytes.calls (k : Nat) (A0 : Option Addr) (c0 : Nat) (l0 : List Int) (A1 : Option Addr) (c1 : Nat) (l1 : List Int) (r : Bool) (w : World) (hr0 : Kd.C (Kd.int .u8) w A0 l0.length l0) (hc0 : l0.length ≤ c0) (hr1 : Kd.C (Kd.int .u8) w A1 l1.length l1) (hc1 : l1.length ≤ c1) (h : incunableref00_EqBytes.f k l0 l1 = some r) :
    Calls Try.prog 12 #[.slice A0 l0.length c0, .slice A1 l1.length c1] w fun e w' => e = .returned (.bool r) ∧ Drawn0 w w' := by
  have HR0 := Aside0.mk hr0
  have HC0 := Aside0.mk hc0
  clear hr0 hc0
  have HR1 := Aside0.mk hr1
  have HC1 := Aside0.mk hc1
  clear hr1 hc1
  have H : (if (l0.length : Int) = (l1.length : Int) then (incunableref00_EqBytes.l0 k l0 l1 0) else (some false)) = some r := h
  clear h
  by_cases c3 : (l0.length : Int) = (l1.length : Int)
  · rw [if_pos c3] at H
    have c3b0 : ((l0.length : Int) == (l1.length : Int)) = true := beq_iff_eq.mpr c3
    have c3b1 : ((l0.length : Int) != (l1.length : Int)) = false := bne_eq_false_iff_eq.mpr c3
    have c3b2 : (l0.length == l1.length) = true := by first | simpa using c3 | (simp at c3 ⊢; omega)
    clear c3
    have H' := Aside0.mk H
    clear H
    go_enter Try.func12, Try.ntmps12
    go_wp2
    repeat (go_quiet (fail); try go_wp2)
    go_loopg [5] k (fun kq v5 w' => ∃ (x5_1 : Int), v5 = .int .i64 x5_1 ∧ Aside0 (incunableref00_EqBytes.l0 kq l0 l1 x5_1 = some r) ∧ Aside0 (kq ≤ k) ∧ Drawn0 w w')
    case atStart => exact ⟨(0), (by first | rfl | (simp; done) | (simp [*]; done)), H', ⟨Nat.le_refl _⟩, by repeat (first | exact Drawn0.refl _ | apply Drawn0.step)⟩
    clear H'
    try clear c1
    try clear p2
    try clear c3
    try clear c3b0
    try clear c3b1
    try clear c3b2
    obtain ⟨x5_1, rfl, HA, HK1, ⟨m1, rfl⟩⟩ := hrel
    cases gk with
    | zero => exact absurd HA.out (by simp [incunableref00_EqBytes.l0])
    | succ k1 =>
      have H := HA.out
      clear HA
      simp only [incunableref00_EqBytes.l0] at H
      by_cases c4 : x5_1 < (l0.length : Int)
      · rw [if_pos c4] at H
        have c4b0 : decide (x5_1 < (l0.length : Int)) = true := decide_eq_true c4
        clear c4
        by_cases c5 : 0 ≤ x5_1
        · rw [if_pos c5] at H
          have c5b0 : decide (0 ≤ x5_1) = true := decide_eq_true c5
          clear c5
          by_cases c6 : x5_1 < (l1.length : Int)
          · rw [if_pos c6] at H
            have c6b0 : decide (x5_1 < (l1.length : Int)) = true := decide_eq_true c6
            clear c6
            by_cases c7 : (rd l0 x5_1) = (rd l1 x5_1)
            · rw [if_pos c7] at H
              have c7b0 : ((rd l0 x5_1) == (rd l1 x5_1)) = true := beq_iff_eq.mpr c7
              have c7b1 : ((rd l0 x5_1) != (rd l1 x5_1)) = false := bne_eq_false_iff_eq.mpr c7
              clear c7
              have H' := Aside0.mk H
              clear H
              have p197 : 0 ≤ (x5_1 : Int) := of_decide_eq_true (by first | (with_reducible assumption) | assumption)
              have q197 : x5_1 < (l0.length : Int) := of_decide_eq_true (by first | (with_reducible assumption) | assumption)
              obtain ⟨ad197, e197, hx197_0⟩ := Kd.at_int HR0.out x5_1 p197 q197
              cases e197
              replace p197 := eq_true p197
              replace q197 := eq_true q197
              have p198 : 0 ≤ (x5_1 : Int) := of_decide_eq_true (by first | (with_reducible assumption) | assumption)
              have q198 : x5_1 < (l1.length : Int) := of_decide_eq_true (by first | (with_reducible assumption) | assumption)
              obtain ⟨ad198, e198, hx198_0⟩ := Kd.at_int HR1.out x5_1 p198 q198
              cases e198
              replace p198 := eq_true p198
              replace q198 := eq_true q198
              go_wp2
              repeat (go_quiet (fail); try go_wp2)
              go_roundg k1
              case measure => have := HK1.out; omega
              case rel => exact ⟨(wrap64 (x5_1 + 1)), (by first | rfl | (simp; done) | (simp [*]; done)), H', ⟨by have := HK1.out; omega⟩, by repeat (first | exact Drawn0.refl _ | apply Drawn0.step)⟩
            rw [if_neg c7] at H
            have c7b0 : ((rd l0 x5_1) == (rd l1 x5_1)) = false := beq_eq_false_iff_ne.mpr c7
            have c7b1 : ((rd l0 x5_1) != (rd l1 x5_1)) = true := bne_iff_ne.mpr c7
            obtain rfl := Option.some.inj H
            have p197 : 0 ≤ (x5_1 : Int) := of_decide_eq_true (by first | (with_reducible assumption) | assumption)
            have q197 : x5_1 < (l0.length : Int) := of_decide_eq_true (by first | (with_reducible assumption) | assumption)
            obtain ⟨ad197, e197, hx197_0⟩ := Kd.at_int HR0.out x5_1 p197 q197
            cases e197
            replace p197 := eq_true p197
            replace q197 := eq_true q197
            have p198 : 0 ≤ (x5_1 : Int) := of_decide_eq_true (by first | (with_reducible assumption) | assumption)
            have q198 : x5_1 < (l1.length : Int) := of_decide_eq_true (by first | (with_reducible assumption) | assumption)
            obtain ⟨ad198, e198, hx198_0⟩ := Kd.at_int HR1.out x5_1 p198 q198
            cases e198
            replace p198 := eq_true p198
            replace q198 := eq_true q198
            go_wp2
            repeat (go_quiet (fail); try go_wp2)
            go_ret
            exact ⟨by first | rfl | (simp; done) | (simp [*]; done), by repeat (first | exact Drawn0.refl _ | apply Drawn0.step)⟩
          rw [if_neg c6] at H
          exact absurd H (by simp)
        rw [if_neg c5] at H
        exact absurd H (by simp)
      rw [if_neg c4] at H
      have c4b0 : decide (x5_1 < (l0.length : Int)) = false := decide_eq_false c4
      clear c4
      obtain rfl := Option.some.inj H
      go_wp2
      repeat (go_quiet (fail); try go_wp2)
      go_ret
      exact ⟨by first | rfl | (simp; done) | (simp [*]; done), by repeat (first | exact Drawn0.refl _ | apply Drawn0.step)⟩
  rw [if_neg c3] at H
  have c3b0 : ((l0.length : Int) == (l1.length : Int)) = false := beq_eq_false_iff_ne.mpr c3
  have c3b1 : ((l0.length : Int) != (l1.length : Int)) = true := bne_iff_ne.mpr c3
  have c3b2 : (l0.length == l1.length) = false := by first | simpa using c3 | (simp at c3 ⊢; omega)
  obtain rfl := Option.some.inj H
  go_enter Try.func12, Try.ntmps12
  go_wp2
  repeat (go_quiet (fail); try go_wp2)
  go_ret
  exact ⟨by first | rfl | (simp; done) | (simp [*]; done), by repeat (first | exact Drawn0.refl _ | apply Drawn0.step)⟩
end Go.Proofs.Ytkeekganabafbaa.X
end
section
namespace Go.Proofs.Ytkeekganabafbaa.X
open Go.RowKit Go.Proofs.YtkeekganabafbaaW.PrintWords Go.Proofs.YtkeekganabafbaaW.PrintLast Go.Proofs.YtkeekganabafbaaW.PrintMore
attribute [local go_sem] max2_int min2_int max_two min_two max_three min_three max_four min_four   -- for this text's walks alone
set_option linter.unusedVariables false
set_option linter.unusedSimpArgs false
def varnum_TakeNum.f (k : Nat) (l0 : List Int) : Option (Int × List Int × Int) := (varnum_take.f k l0).bind fun bt206 => (if bt206.2.2 = 0 then (if 0 ≤ bt206.2.1 then (if bt206.2.1 ≤ (l0.length : Int) then ((slices_Clone_byte_byte.f (l0.drop (bt206.2.1 : Int).toNat)).bind fun t210 => (some (bt206.1, t210, 0))) else (none)) else (none)) else (some (0, ([] : List Int), bt206.2.2)))
theorem varnum_TakeNum.mono : ∀ a0 k, LeO (varnum_TakeNum.f k a0) (varnum_TakeNum.f (k + 1) a0) := by
  intro a0 k
  unfold varnum_TakeNum.f
  repeat' first
      | (with_reducible exact varnum_take.mono _ _)
      | (with_reducible exact LeO.refl _)
      | (with_reducible exact LeO.none _)
      | (with_reducible refine LeO.ite ?_ ?_)
      | (with_reducible refine LeO.bind ?_ (fun _ => ?_))
      | exact varnum_take.mono _ _
      | exact LeO.none _
      | refine LeO.ite ?_ ?_
      | refine LeO.bind ?_ (fun _ => ?_)
set_option maxHeartbeats 8000000 in
set_option maxRecDepth 100000 in
theorem varnum_TakeNum.calls (k : Nat) (A0 : Option Addr) (c0 : Nat) (l0 : List Int) (r1 : Int) (r2 : List Int) (r3 : Int) (w : World) (hr0 : Kd.C (Kd.int .u8) w A0 l0.length l0) (hc0 : l0.length ≤ c0) (h : varnum_TakeNum.f k l0 = some (r1, r2, r3)) :
    Calls Try.prog 79 #[.slice A0 l0.length c0] w fun e w' => ∃ v1_ : Value, e = .returned (.tuple #[.int .i64 r1, v1_, .int .i64 r3]) ∧ Kd.R (Kd.int .u8) 5 w' w.heap.size (fun _ => True) v1_ r2 ∧ Below w.heap.size w w' := by
  have HR0 := Aside0.mk hr0
  have HC0 := Aside0.mk hc0
  clear hr0 hc0
  have HB := Aside0.mk (Below.refl w.heap.size w)
  have H : ((varnum_take.f k l0).bind fun bt206 => (if bt206.2.2 = 0 then (if 0 ≤ bt206.2.1 then (if bt206.2.1 ≤ (l0.length : Int) then ((slices_Clone_byte_byte.f (l0.drop (bt206.2.1 : Int).toNat)).bind fun t210 => (some (bt206.1, t210, 0))) else (none)) else (none)) else (some (0, ([] : List Int), bt206.2.2)))) = some (r1, r2, r3) := h
  clear h
  replace H := Option.bind_eq_some_iff.mp H
  obtain ⟨⟨t206, t207, t208⟩, A20, H⟩ := H
  replace H : (if t208 = 0 then (if 0 ≤ t207 then (if t207 ≤ (l0.length : Int) then ((slices_Clone_byte_byte.f (l0.drop (t207 : Int).toNat)).bind fun t210 => (some (t206, t210, 0))) else (none)) else (none)) else (some (0, ([] : List Int), t208))) = some (r1, r2, r3) := H
  have A2 := Aside0.mk A20
  clear A20
  by_cases c3 : t208 = 0
  · rw [if_pos c3] at H
    have c3b0 : (t208 == 0) = true := beq_iff_eq.mpr c3
    have c3b1 : (t208 != 0) = false := bne_eq_false_iff_eq.mpr c3
    clear c3
    by_cases c4 : 0 ≤ t207
    · rw [if_pos c4] at H
      have c4b0 := eq_true c4
      have c4b1 : decide (0 ≤ t207) = true := decide_eq_true c4
      clear c4
      by_cases c5 : t207 ≤ (l0.length : Int)
      · rw [if_pos c5] at H
        have c5b0 := eq_true c5
        have c5b1 : decide (t207 ≤ (l0.length : Int)) = true := decide_eq_true c5
        clear c5
        replace H := Option.bind_eq_some_iff.mp H
        obtain ⟨t210, A60, H⟩ := H
        replace H : (some (t206, t210, 0)) = some (r1, r2, r3) := H
        have A6 := Aside0.mk A60
        clear A60
        simp only [Option.some.injEq, Prod.mk.injEq] at H
        obtain ⟨rfl, rfl, rfl⟩ := H
        go_enter Try.func79, Try.ntmps79
        go_wp2_with (first | ((with_reducible refine gate_callee (f := 73) rfl ?_); refine goesL_ (some 8) rfl rfl Try.func73 (by kernel_rfl) rfl #[.slice A0 l0.length c0] rfl (by (try simp only [List.map_toArray, List.map_cons, List.map_nil]); first | done | rfl | (simp only [List.length_drop, List.length_take]; rfl)) ?_; (with_reducible refine (varnum_take.calls k _ _ l0 t206 t207 t208 _ ?side1 ?side2 A2.out).mono ?_); (case side1 => repeat (first | exact HR0.out | (with_reducible refine Kd.C_alloc ?_ _) | (with_reducible refine Kd.C_drewN ?_ _) | (with_reducible refine Kd.C_drew ?_))); (case side2 => exact HC0.out); rintro e w7 ⟨rfl, hb⟩; refine ⟨_, rfl, ?_⟩; have n0_ := Aside0.mk (below_step (by repeat (first | (with_reducible first | exact HB.out | apply below_alloc | apply pw_below_drewN | apply below_drew1) | exact HB.out)) hb); clear HB; have HB := n0_; clear n0_; (try clear hb); (try clear hb2); (try clear hk); (try clear hi); obtain ⟨i08, hi08, _, hsz8, _⟩ := info_parts info5; obtain ⟨A8, hcut8, hA8, hC8⟩ := print_drop_of (P := Try.prog) (Value.int .u8) 0 31 5 .i64 Try.underlying31 hi08 hsz8 A0 c0 l0 t207 (of_decide_eq_true (by first | (with_reducible assumption) | assumption)) (of_decide_eq_true (by first | (with_reducible assumption) | assumption)) HC0.out; have HR209 := Aside0.mk (Kd.C_of_reads (h1 := fun _ => rfl) (hA8 _ (Kd.reads_of_C HR0.out))); have HC209 := Aside0.mk hC8; clear hA8 hC8 hi08 hsz8) | ((with_reducible refine gate_callee (f := 74) rfl ?_); refine goesL_ (some 19) rfl rfl Try.func74 (by kernel_rfl) rfl #[.slice A8 (l0.drop (t207 : Int).toNat).length (c0 - t207.toNat)] rfl (by (try simp only [List.map_toArray, List.map_cons, List.map_nil]); first | done | (rw [show (l0.drop (t207 : Int).toNat).length = (l0.length - t207.toNat) from List.length_drop] <;> rfl) | rfl | (simp only [List.length_drop, List.length_take]; rfl)) ?_; (with_reducible refine (slices_Clone_byte_byte.calls _ _ (l0.drop (t207 : Int).toNat) t210 _ ?side1 ?side2 A6.out).mono ?_); (case side1 => repeat (first | exact (Kd.C_below HR209.out HB.out) | exact HR209.out | (with_reducible refine Kd.C_alloc ?_ _) | (with_reducible refine Kd.C_drewN ?_ _) | (with_reducible refine Kd.C_drew ?_))); (case side2 => exact HC209.out); rintro e w9 ⟨v211, rfl, ho0, hb⟩; refine ⟨_, rfl, ?_⟩; have n0_ := Aside0.mk (Kd.R_lower ho0 (below_size (by repeat (first | (with_reducible first | exact HB.out | apply below_alloc | apply pw_below_drewN | apply below_drew1) | exact HB.out)))); have n1_ := Aside0.mk (below_step (by repeat (first | (with_reducible first | exact HB.out | apply below_alloc | apply pw_below_drewN | apply below_drew1) | exact HB.out)) hb); clear HB; have HO212 := n0_; have HB := n1_; clear n0_ n1_; (try clear hb); (try clear hb2); (try clear hk); (try clear hi); (try clear ho0)))
        go_ret3
        exact ⟨_, by first | rfl | (simp [errW_none, errW_some] <;> rfl) | (simp [*, errW_none, errW_some] <;> rfl), by (with_reducible repeat (first | apply Kd.R_alloc | apply Kd.R_drewN | apply Kd.R_drew)); exact HO212.out, by repeat (first | (with_reducible first | exact HB.out | apply below_alloc | apply pw_below_drewN | apply below_drew1) | exact HB.out)⟩
      rw [if_neg c5] at H
      exact absurd H (by simp)
    rw [if_neg c4] at H
    exact absurd H (by simp)
  rw [if_neg c3] at H
  have c3b0 : (t208 == 0) = false := beq_eq_false_iff_ne.mpr c3
  have c3b1 : (t208 != 0) = true := bne_iff_ne.mpr c3
  simp only [Option.some.injEq, Prod.mk.injEq] at H
  obtain ⟨rfl, rfl, rfl⟩ := H
  go_enter Try.func79, Try.ntmps79
  go_wp2_with (first | ((with_reducible refine gate_callee (f := 73) rfl ?_); refine goesL_ (some 8) rfl rfl Try.func73 (by kernel_rfl) rfl #[.slice A0 l0.length c0] rfl (by (try simp only [List.map_toArray, List.map_cons, List.map_nil]); first | done | rfl | (simp only [List.length_drop, List.length_take]; rfl)) ?_; (with_reducible refine (varnum_take.calls k _ _ l0 t206 t207 t208 _ ?side1 ?side2 A2.out).mono ?_); (case side1 => repeat (first | exact HR0.out | (with_reducible refine Kd.C_alloc ?_ _) | (with_reducible refine Kd.C_drewN ?_ _) | (with_reducible refine Kd.C_drew ?_))); (case side2 => exact HC0.out); rintro e w10 ⟨rfl, hb⟩; refine ⟨_, rfl, ?_⟩; have n0_ := Aside0.mk (below_step (by repeat (first | (with_reducible first | exact HB.out | apply below_alloc | apply pw_below_drewN | apply below_drew1) | exact HB.out)) hb); clear HB; have HB := n0_; clear n0_; (try clear hb); (try clear hb2); (try clear hk); (try clear hi)))
  go_ret3
  exact ⟨_, by first | rfl | (simp [errW_none, errW_some] <;> rfl) | (simp [*, errW_none, errW_some] <;> rfl), by first | exact Kd.R_nil _ _ _ _ _ | exact Kd.N_nil _ _ _ _ _ | exact Kd.V_nil _ _ _ _ _ | exact Kd.Q_nil _ _ _ _ _ | exact Kd.S_nil _ _ _ _ _, by repeat (first | (with_reducible first | exact HB.out | apply below_alloc | apply pw_below_drewN | apply below_drew1) | exact HB.out)⟩
def IsS98 (w0 W : World) (g : Nat) (f0 : List Int) (f1 : Bool) : Prop := ∃ A0 c0, W.heap[g]? = some (.cells #[.slice A0 f0.length c0, .bool f1] 98 (0, 0)) ∧ w0.heap.size ≤ g ∧ Kd.C (Kd.int .u8) w0 A0 f0.length f0
theorem IsS98.grown {w0 W : World} {g : Nat} {f0 : List Int} {f1 : Bool} {W1 : World} {row : Option Nat} (h : IsS98 w0 W g f0 f1) (hw : W.grownBy W1 row) (hne : some g ≠ row) : IsS98 w0 W1 g f0 f1 := by
  obtain ⟨A0, c0, hb, hg, hr0⟩ := h
  exact ⟨A0, c0, blk_grown hb hw hne, hg, hr0⟩
theorem IsS98.kept {w0 W : World} {g : Nat} {f0 : List Int} {f1 : Bool} {W1 : World} {S : Nat → Prop} (h : IsS98 w0 W g f0 f1) (hk : Kept W W1 S) (hne : ¬ S g) : IsS98 w0 W1 g f0 f1 := by
  obtain ⟨A0, c0, hb, hg, hr0⟩ := h
  exact ⟨A0, c0, blk_kept hb hk hne, hg, hr0⟩
theorem IsS98.below {w0 W : World} {g : Nat} {f0 : List Int} {f1 : Bool} {W1 : World} (h : IsS98 w0 W g f0 f1) (hw : Below W.heap.size W W1) : IsS98 w0 W1 g f0 f1 := h.grown (grown_of_below hw none) (by simp)
theorem IsS98.alloc {w0 W : World} {g : Nat} {f0 : List Int} {f1 : Bool} (h : IsS98 w0 W g f0 f1) (o : Obj) : IsS98 w0 (W.alloc o) g f0 f1 := h.below (below_alloc (Below.refl _ _) o)
theorem IsS98.drewN {w0 W : World} {g : Nat} {f0 : List Int} {f1 : Bool} (h : IsS98 w0 W g f0 f1) (m : Nat) : IsS98 w0 (W.drewN m) g f0 f1 := h
theorem IsS98.drew {w0 W : World} {g : Nat} {f0 : List Int} {f1 : Bool} (h : IsS98 w0 W g f0 f1) : IsS98 w0 W.drew g f0 f1 := h
theorem IsS98.at_ {w0 W : World} {g : Nat} {f0 : List Int} {f1 : Bool} {w' : World} {m : Nat} (hq : W.drewN m = w') (h : IsS98 w0 W g f0 f1) : IsS98 w0 w' g f0 f1 := by subst hq; exact IsS98.drewN h m
theorem IsS98.apart {w0 W : World} {g : Nat} {f0 : List Int} {f1 : Bool} {α : Type} {d : Kd α} {e : Nat} {base : Nat} {ok : Nat → Prop} {v : Value} {xs : List α} (h : IsS98 w0 W g f0 f1) (ho : d.R e W base ok v xs) (ht : ∀ q, q ∈ e :: d.E → q ≠ 98) : d.R e W base (fun k => ok k ∧ k ≠ g) v xs := by
  obtain ⟨A0, c0, hb, hg, hr0⟩ := h
  exact Kd.R_types ho hb ht
theorem IsS98.own_ne {w0 W : World} {g : Nat} {f0 : List Int} {f1 : Bool} {α : Type} {d : Kd α} {e : Nat} {base : Nat} {ok : Nat → Prop} {v : Value} {xs : List α} (h : IsS98 w0 W g f0 f1) (ho : d.R e W base ok v xs) (ht : e ≠ 98) : some g ≠ v.ownBlock := by
  obtain ⟨A0, c0, hb, hg, hr0⟩ := h
  exact Kd.R_ne ho hb ht
theorem IsS98.lt {w0 W : World} {g : Nat} {f0 : List Int} {f1 : Bool} (h : IsS98 w0 W g f0 f1) : g < W.heap.size := by
  obtain ⟨A0, c0, hb, hg, hr0⟩ := h
  exact blk_lt hb
theorem IsS98.ge {w0 W : World} {g : Nat} {f0 : List Int} {f1 : Bool} (h : IsS98 w0 W g f0 f1) : w0.heap.size ≤ g := by
  obtain ⟨A0, c0, hb, hg, hr0⟩ := h
  exact hg
theorem IsS98.far {w0 W : World} {g : Nat} {f0 : List Int} {f1 : Bool} {p : Addr} (h : IsS98 w0 W g f0 f1) (hne : g ≠ p.block) (u : Value) : IsS98 w0 (W.setCell p u) g f0 f1 := by
  obtain ⟨A0, c0, hb, hg, hr0⟩ := h
  exact ⟨A0, c0, blk_far hb hne u, hg, hr0⟩
theorem cellS98_0 {W : World} {g : Nat} {A0 : Option Addr} {c0 : Nat} {f0 : List Int} {f1 : Bool} (h : W.heap[g]? = some (.cells #[.slice A0 f0.length c0, .bool f1] 98 (0, 0))) : W.cell? ⟨g, 0, none⟩ = some (.slice A0 f0.length c0) := (blk_cell h 0).trans rfl
theorem cellS98_1 {W : World} {g : Nat} {A0 : Option Addr} {c0 : Nat} {f0 : List Int} {f1 : Bool} (h : W.heap[g]? = some (.cells #[.slice A0 f0.length c0, .bool f1] 98 (0, 0))) : W.cell? ⟨g, 1, none⟩ = some (.bool f1) := (blk_cell h 1).trans rfl
theorem IsS98.set_1 {w0 W : World} {g : Nat} {f0 : List Int} {f1 : Bool} (h : IsS98 w0 W g f0 f1) (x : Bool) : IsS98 w0 (W.setCell ⟨g, 1, none⟩ (.bool x)) g f0 x := by
  obtain ⟨A0, c0, hb, hg, hr0⟩ := h
  exact ⟨A0, c0, by simpa using blk_set hb 1 (.bool x), hg, hr0⟩
def tables_reader_done.f (s0_0 : List Int) (s0_1 : Bool) : Option (Bool × Bool) := if s0_1 = true then (some (false, s0_1)) else (some (((s0_0.length : Int) == 0), s0_1))
set_option maxHeartbeats 8000000 in
set_option maxRecDepth 100000 in
theorem tables_reader_done.calls (g : Nat) (s0_0 : List Int) (s0_1 : Bool) (r1 : Bool) (r2 : Bool) (w0 w : World) (hI : IsS98 w0 w g s0_0 s0_1) (hB : Below w0.heap.size w0 w) (h : tables_reader_done.f s0_0 s0_1 = some (r1, r2)) :
    Calls Try.prog 65 #[.pointer (some ⟨g, 0, none⟩)] w fun e w' => e = .returned (.bool r1) ∧ IsS98 w0 w' g s0_0 r2 ∧ Below w0.heap.size w0 w' ∧ KeepBut w w' g none := by
  have HI0 := Aside0.mk hI
  have HK := Aside0.mk (KeepBut.refl w g none)
  have HL := Aside0.mk hB.size
  clear hI
  have HW0 := Aside0.mk hB.size
  have HB := Aside0.mk hB
  clear hB
  have H : (if s0_1 = true then (some (false, s0_1)) else (some (((s0_0.length : Int) == 0), s0_1))) = some (r1, r2) := h
  clear h
  by_cases c2 : s0_1 = true
  · subst c2
    have H1 : (some (false, true)) = some (r1, r2) := by rw [if_pos rfl] at H; exact H
    clear H
    have H := H1
    clear H1
    simp only [Option.some.injEq, Prod.mk.injEq] at H
    obtain ⟨rfl, rfl⟩ := H
    obtain ⟨ASz3_0, cSz3_0, HGz3, hgz3, HSz3_0⟩ := HI0.out
    have hcz3_0 := cellS98_0 HGz3
    have hcz3_1 := cellS98_1 HGz3
    have hfz3_1 := blk_frozen HGz3 1
    clear HGz3 hgz3
    go_enter Try.func65, Try.ntmps65
    go_wp2
    go_ret
    exact ⟨by first | rfl | (simp [errW_none, errW_some] <;> rfl) | (simp [*, errW_none, errW_some] <;> rfl), by repeat (first | (with_reducible first | exact HI0.out | apply IsS98.alloc | apply IsS98.drewN | apply IsS98.drew | apply IsS98.set_1) | exact HI0.out), by repeat (first | (with_reducible first | exact HB.out | apply below_alloc | apply pw_below_drewN | apply below_drew1 | refine below_set ?_ (IsS98.ge HI0.out)) | exact HB.out), by repeat (first | (with_reducible first | exact HK.out | apply KeepBut.set_ | apply keep_drewN | apply keep_drew | apply keep_alloc) | exact HK.out)⟩
  replace c2 := Bool.eq_false_iff.mpr c2
  subst c2
  have H1 : (some (((s0_0.length : Int) == 0), false)) = some (r1, r2) := by rw [if_neg (show ¬ (false = true) by decide)] at H; exact H
  clear H
  have H := H1
  clear H1
  simp only [Option.some.injEq, Prod.mk.injEq] at H
  obtain ⟨rfl, rfl⟩ := H
  obtain ⟨ASz4_0, cSz4_0, HGz4, hgz4, HSz4_0⟩ := HI0.out
  have hcz4_0 := cellS98_0 HGz4
  have hcz4_1 := cellS98_1 HGz4
  have hfz4_1 := blk_frozen HGz4 1
  clear HGz4 hgz4
  go_enter Try.func65, Try.ntmps65
  go_wp2
  go_ret
  exact ⟨by first | rfl | (simp [errW_none, errW_some] <;> rfl) | (simp [*, errW_none, errW_some] <;> rfl), by repeat (first | (with_reducible first | exact HI0.out | apply IsS98.alloc | apply IsS98.drewN | apply IsS98.drew | apply IsS98.set_1) | exact HI0.out), by repeat (first | (with_reducible first | exact HB.out | apply below_alloc | apply pw_below_drewN | apply below_drew1 | refine below_set ?_ (IsS98.ge HI0.out)) | exact HB.out), by repeat (first | (with_reducible first | exact HK.out | apply KeepBut.set_ | apply keep_drewN | apply keep_drew | apply keep_alloc) | exact HK.out)⟩
def incunableref00_EqInts.l0 : Nat → List Int → List Int → Int → Option (Bool)
  | 0, _, _, _ => none
  | k + 1, x0, x1, x5 => if x5 < (x0.length : Int) then (if 0 ≤ x5 then (if x5 < (x1.length : Int) then (if (rd x0 x5) = (rd x1 x5) then (incunableref00_EqInts.l0 k x0 x1 (wrap64 (x5 + 1))) else (some false)) else (none)) else (none)) else (some true)
def incunableref00_EqInts.f (k : Nat) (l0 : List Int) (l1 : List Int) : Option (Bool) := if (l0.length : Int) = (l1.length : Int) then (incunableref00_EqInts.l0 k l0 l1 0) else (some false)
theorem incunableref00_EqInts.mono_l : ∀ k, (∀ y0 y1 y2, LeO (incunableref00_EqInts.l0 k y0 y1 y2) (incunableref00_EqInts.l0 (k + 1) y0 y1 y2))
  | 0 => fun _ _ _ r h => by simp [incunableref00_EqInts.l0] at h
  | k + 1 => by
    have ih0 := incunableref00_EqInts.mono_l k
    · intro y0 y1 y2
      unfold incunableref00_EqInts.l0
      repeat' first
      | (with_reducible exact ih0 _ _ _)
      | (with_reducible exact LeO.refl _)
      | (with_reducible exact LeO.none _)
      | (with_reducible refine LeO.ite ?_ ?_)
      | (with_reducible refine LeO.bind ?_ (fun _ => ?_))
      | exact ih0 _ _ _
      | exact LeO.none _
      | refine LeO.ite ?_ ?_
      | refine LeO.bind ?_ (fun _ => ?_)
theorem incunableref00_EqInts.mono : ∀ a0 a1 k, LeO (incunableref00_EqInts.f k a0 a1) (incunableref00_EqInts.f (k + 1) a0 a1) := by
  intro a0 a1 k
  have ih0 := incunableref00_EqInts.mono_l k
  unfold incunableref00_EqInts.f
  repeat' first
      | (with_reducible exact ih0 _ _ _)
      | (with_reducible exact LeO.refl _)
      | (with_reducible exact LeO.none _)
      | (with_reducible refine LeO.ite ?_ ?_)
      | (with_reducible refine LeO.bind ?_ (fun _ => ?_))
      | exact ih0 _ _ _
      | exact LeO.none _
      | refine LeO.ite ?_ ?_
      | refine LeO.bind ?_ (fun _ => ?_)
set_option maxHeartbeats 8000000 in
set_option maxRecDepth 100000 in
theorem incunableref00_EqInts.calls (k : Nat) (A0 : Option Addr) (c0 : Nat) (l0 : List Int) (A1 : Option Addr) (c1 : Nat) (l1 : List Int) (r : Bool) (w : World) (hr0 : Kd.C (Kd.int .i64) w A0 l0.length l0) (hc0 : l0.length ≤ c0) (hr1 : Kd.C (Kd.int .i64) w A1 l1.length l1) (hc1 : l1.length ≤ c1) (h : incunableref00_EqInts.f k l0 l1 = some r) :
    Calls Try.prog 44 #[.slice A0 l0.length c0, .slice A1 l1.length c1] w fun e w' => e = .returned (.bool r) ∧ Drawn0 w w' := by
  have HR0 := Aside0.mk hr0
  have HC0 := Aside0.mk hc0
  clear hr0 hc0
  have HR1 := Aside0.mk hr1
  have HC1 := Aside0.mk hc1
  clear hr1 hc1
  have H : (if (l0.length : Int) = (l1.length : Int) then (incunableref00_EqInts.l0 k l0 l1 0) else (some false)) = some r := h
  clear h
  by_cases c3 : (l0.length : Int) = (l1.length : Int)
  · rw [if_pos c3] at H
    have c3b0 : ((l0.length : Int) == (l1.length : Int)) = true := beq_iff_eq.mpr c3
    have c3b1 : ((l0.length : Int) != (l1.length : Int)) = false := bne_eq_false_iff_eq.mpr c3
    have c3b2 : (l0.length == l1.length) = true := by first | simpa using c3 | (simp at c3 ⊢; omega)
    clear c3
    have H' := Aside0.mk H
    clear H
    go_enter Try.func44, Try.ntmps44
    go_wp2
    repeat (go_quiet (fail); try go_wp2)
    go_loopg [5] k (fun kq v5 w' => ∃ (x5_1 : Int), v5 = .int .i64 x5_1 ∧ Aside0 (incunableref00_EqInts.l0 kq l0 l1 x5_1 = some r) ∧ Aside0 (kq ≤ k) ∧ Drawn0 w w')
    case atStart => exact ⟨(0), (by first | rfl | (simp; done) | (simp [*]; done)), H', ⟨Nat.le_refl _⟩, by repeat (first | exact Drawn0.refl _ | apply Drawn0.step)⟩
    clear H'
    try clear c1
    try clear p2
    try clear c3
    try clear c3b0
    try clear c3b1
    try clear c3b2
    obtain ⟨x5_1, rfl, HA, HK1, ⟨m1, rfl⟩⟩ := hrel
    cases gk with
    | zero => exact absurd HA.out (by simp [incunableref00_EqInts.l0])
    | succ k1 =>
      have H := HA.out
      clear HA
      simp only [incunableref00_EqInts.l0] at H
      by_cases c4 : x5_1 < (l0.length : Int)
      · rw [if_pos c4] at H
        have c4b0 : decide (x5_1 < (l0.length : Int)) = true := decide_eq_true c4
        clear c4
        by_cases c5 : 0 ≤ x5_1
        · rw [if_pos c5] at H
          have c5b0 : decide (0 ≤ x5_1) = true := decide_eq_true c5
          clear c5
          by_cases c6 : x5_1 < (l1.length : Int)
          · rw [if_pos c6] at H
            have c6b0 : decide (x5_1 < (l1.length : Int)) = true := decide_eq_true c6
            clear c6
            by_cases c7 : (rd l0 x5_1) = (rd l1 x5_1)
            · rw [if_pos c7] at H
              have c7b0 : ((rd l0 x5_1) == (rd l1 x5_1)) = true := beq_iff_eq.mpr c7
              have c7b1 : ((rd l0 x5_1) != (rd l1 x5_1)) = false := bne_eq_false_iff_eq.mpr c7
              clear c7
              have H' := Aside0.mk H
              clear H
              have p218 : 0 ≤ (x5_1 : Int) := of_decide_eq_true (by first | (with_reducible assumption) | assumption)
              have q218 : x5_1 < (l0.length : Int) := of_decide_eq_true (by first | (with_reducible assumption) | assumption)
              obtain ⟨ad218, e218, hx218_0⟩ := Kd.at_int HR0.out x5_1 p218 q218
              cases e218
              replace p218 := eq_true p218
              replace q218 := eq_true q218
              have p219 : 0 ≤ (x5_1 : Int) := of_decide_eq_true (by first | (with_reducible assumption) | assumption)
              have q219 : x5_1 < (l1.length : Int) := of_decide_eq_true (by first | (with_reducible assumption) | assumption)
              obtain ⟨ad219, e219, hx219_0⟩ := Kd.at_int HR1.out x5_1 p219 q219
              cases e219
              replace p219 := eq_true p219
              replace q219 := eq_true q219
              go_wp2
              repeat (go_quiet (fail); try go_wp2)
              go_roundg k1
              case measure => have := HK1.out; omega
              case rel => exact ⟨(wrap64 (x5_1 + 1)), (by first | rfl | (simp; done) | (simp [*]; done)), H', ⟨by have := HK1.out; omega⟩, by repeat (first | exact Drawn0.refl _ | apply Drawn0.step)⟩
            rw [if_neg c7] at H
            have c7b0 : ((rd l0 x5_1) == (rd l1 x5_1)) = false := beq_eq_false_iff_ne.mpr c7
            have c7b1 : ((rd l0 x5_1) != (rd l1 x5_1)) = true := bne_iff_ne.mpr c7
            obtain rfl := Option.some.inj H
            have p218 : 0 ≤ (x5_1 : Int) := of_decide_eq_true (by first | (with_reducible assumption) | assumption)
            have q218 : x5_1 < (l0.length : Int) := of_decide_eq_true (by first | (with_reducible assumption) | assumption)
            obtain ⟨ad218, e218, hx218_0⟩ := Kd.at_int HR0.out x5_1 p218 q218
            cases e218
            replace p218 := eq_true p218
            replace q218 := eq_true q218
            have p219 : 0 ≤ (x5_1 : Int) := of_decide_eq_true (by first | (with_reducible assumption) | assumption)
            have q219 : x5_1 < (l1.length : Int) := of_decide_eq_true (by first | (with_reducible assumption) | assumption)
            obtain ⟨ad219, e219, hx219_0⟩ := Kd.at_int HR1.out x5_1 p219 q219
            cases e219
            replace p219 := eq_true p219
            replace q219 := eq_true q219
            go_wp2
            repeat (go_quiet (fail); try go_wp2)
            go_ret
            exact ⟨by first | rfl | (simp; done) | (simp [*]; done), by repeat (first | exact Drawn0.refl _ | apply Drawn0.step)⟩
          rw [if_neg c6] at H
          exact absurd H (by simp)
        rw [if_neg c5] at H
        exact absurd H (by simp)
      rw [if_neg c4] at H
      have c4b0 : decide (x5_1 < (l0.length : Int)) = false := decide_eq_false c4
      clear c4
      obtain rfl := Option.some.inj H
      go_wp2
      repeat (go_quiet (fail); try go_wp2)
      go_ret
      exact ⟨by first | rfl | (simp; done) | (simp [*]; done), by repeat (first | exact Drawn0.refl _ | apply Drawn0.step)⟩
  rw [if_neg c3] at H
  have c3b0 : ((l0.length : Int) == (l1.length : Int)) = false := beq_eq_false_iff_ne.mpr c3
  have c3b1 : ((l0.length : Int) != (l1.length : Int)) = true := bne_iff_ne.mpr c3
  have c3b2 : (l0.length == l1.length) = false := by first | simpa using c3 | (simp at c3 ⊢; omega)
  obtain rfl := Option.some.inj H
  go_enter Try.func44, Try.ntmps44
  go_wp2
  repeat (go_quiet (fail); try go_wp2)
  go_ret
  exact ⟨by first | rfl | (simp; done) | (simp [*]; done), by repeat (first | exact Drawn0.refl _ | apply Drawn0.step)⟩
def incunableref00_CopyInts.f (l0 : List Int) : Option (List Int) := if ([] : List Int).length + l0.length < 17592186044416 then (some (([] : List Int) ++ l0)) else (none)
set_option maxHeartbeats 8000000 in
set_option maxRecDepth 100000 in
theorem incunableref00_CopyInts.calls (A0 : Option Addr) (c0 : Nat) (l0 : List Int) (r : List Int) (w : World) (hr0 : Kd.C (Kd.int .i64) w A0 l0.length l0) (hc0 : l0.length ≤ c0) (h : incunableref00_CopyInts.f l0 = some r) :
    Calls Try.prog 32 #[.slice A0 l0.length c0] w fun e w' => ∃ v0_ : Value, e = .returned (v0_) ∧ Kd.R (Kd.int .i64) 3 w' w.heap.size (fun _ => True) v0_ r ∧ Below w.heap.size w w' := by
  have HR0 := Aside0.mk hr0
  have HC0 := Aside0.mk hc0
  clear hr0 hc0
  have HB := Aside0.mk (Below.refl w.heap.size w)
  have H : (if ([] : List Int).length + l0.length < 17592186044416 then (some (([] : List Int) ++ l0)) else (none)) = some r := h
  clear h
  by_cases c2 : ([] : List Int).length + l0.length < 17592186044416
  · rw [if_pos c2] at H
    have LMc2 := Aside0.mk c2
    clear c2
    obtain ⟨y220, hy220⟩ : ∃ y_ : List Int, y_ = (([] : List Int) ++ l0) := ⟨_, rfl⟩
    replace H : (some y220) = some r := by first | (rw [hy220]; with_reducible exact H) | (have H2_ := (Option.bind_some _ _).symm.trans H; rw [hy220]; with_reducible exact H2_) | (have H2_ := (Option.bind_some _ _).symm.trans H; with_reducible exact H2_) | with_reducible exact H | (rw [hy220]; exact H) | exact H
    have Ny220 := Aside0.mk hy220
    clear hy220
    obtain rfl := Option.some.inj H
    go_enter Try.func32, Try.ntmps32
    go_wp2_with (first | ((with_reducible refine gate_builtin (b := .append) (xs := #[.tmp 4, .tmp 5]) rfl ?_); at_builtin; refine Kd.R_append_rows (Kd.int .i64) (w0 := w) w.heap.size rfl (.tmp 4) (.tmp 5) 24 3 (.int .i64 0) 8 rfl Try.underlying24 info3 rfl (by decide) (by omega) (.slice none 0 0) ([] : List Int) l0 _ _ _ (fun _ => True) (fun _ => False) rfl rfl ?aO ?aR (fun _ _ h => h) (fun _ h => h.elim) ?aF ?aB ?aS ?aL ?_; (case aR => repeat (first | exact HR0.out | (with_reducible refine Kd.C_alloc ?_ _) | (with_reducible refine Kd.C_drewN ?_ _) | (with_reducible refine Kd.C_drew ?_))); (case aB => exact (by repeat (first | (with_reducible first | exact HB.out | apply below_alloc | apply pw_below_drewN | apply below_drew1) | exact HB.out))); (case aF => exact (fun _ _ => trivial)); (case aO => exact ((Kd.R_nil _ _ _ _ (fun _ => True)))); (case aS => exact (below_size (by repeat (first | (with_reducible first | exact HB.out | apply below_alloc | apply pw_below_drewN | apply below_drew1) | exact HB.out)))); (case aL => have := LMc2.out; omega); intro v221 w3 ho hb hg hat; rw [← Ny220.out] at ho; have n0_ := Aside0.mk (hb); have n1_ := Aside0.mk (ho); clear HB; have HB := n0_; have HO222 := n1_; clear n0_ n1_; clear ho hb hg hat))
    go_ret
    exact ⟨_, by first | rfl | (simp [errW_none, errW_some] <;> rfl) | (simp [*, errW_none, errW_some] <;> rfl), by (with_reducible repeat (first | apply Kd.R_alloc | apply Kd.R_drewN | apply Kd.R_drew)); exact HO222.out, by repeat (first | (with_reducible first | exact HB.out | apply below_alloc | apply pw_below_drewN | apply below_drew1) | exact HB.out)⟩
  rw [if_neg c2] at H
  exact absurd H (by simp)
def incunableref00_CopyBytes.f (l0 : List Int) : Option (List Int) := if ([] : List Int).length + l0.length < 225179981368000 then (some (([] : List Int) ++ l0)) else (none)
set_option maxHeartbeats 8000000 in
set_option maxRecDepth 100000 in
theorem incunableref00_CopyBytes.calls (A0 : Option Addr) (c0 : Nat) (l0 : List Int) (r : List Int) (w : World) (hr0 : Kd.C (Kd.int .u8) w A0 l0.length l0) (hc0 : l0.length ≤ c0) (h : incunableref00_CopyBytes.f l0 = some r) :
    Calls Try.prog 18 #[.slice A0 l0.length c0] w fun e w' => ∃ v0_ : Value, e = .returned (v0_) ∧ Kd.R (Kd.int .u8) 5 w' w.heap.size (fun _ => True) v0_ r ∧ Below w.heap.size w w' := by
  have HR0 := Aside0.mk hr0
  have HC0 := Aside0.mk hc0
  clear hr0 hc0
  have HB := Aside0.mk (Below.refl w.heap.size w)
  have H : (if ([] : List Int).length + l0.length < 225179981368000 then (some (([] : List Int) ++ l0)) else (none)) = some r := h
  clear h
  by_cases c2 : ([] : List Int).length + l0.length < 225179981368000
  · rw [if_pos c2] at H
    have LMc2 := Aside0.mk c2
    clear c2
    obtain ⟨y235, hy235⟩ : ∃ y_ : List Int, y_ = (([] : List Int) ++ l0) := ⟨_, rfl⟩
    replace H : (some y235) = some r := by first | (rw [hy235]; with_reducible exact H) | (have H2_ := (Option.bind_some _ _).symm.trans H; rw [hy235]; with_reducible exact H2_) | (have H2_ := (Option.bind_some _ _).symm.trans H; with_reducible exact H2_) | with_reducible exact H | (rw [hy235]; exact H) | exact H
    have Ny235 := Aside0.mk hy235
    clear hy235
    obtain rfl := Option.some.inj H
    go_enter Try.func18, Try.ntmps18
    go_wp2_with (first | ((with_reducible refine gate_builtin (b := .append) (xs := #[.tmp 4, .tmp 5]) rfl ?_); at_builtin; refine Kd.R_append_rows_wide (Kd.int .u8) (w0 := w) w.heap.size rfl (.tmp 4) (.tmp 5) 31 5 (.int .u8 0) 1 rfl Try.underlying31 info5 rfl (by decide) (by omega) (.slice none 0 0) ([] : List Int) l0 _ _ _ (fun _ => True) (fun _ => False) rfl rfl ?aO ?aR (fun _ _ h => h) (fun _ h => h.elim) ?aF ?aB ?aS ?aL ?_; (case aR => repeat (first | exact HR0.out | (with_reducible refine Kd.C_alloc ?_ _) | (with_reducible refine Kd.C_drewN ?_ _) | (with_reducible refine Kd.C_drew ?_))); (case aB => exact (by repeat (first | (with_reducible first | exact HB.out | apply below_alloc | apply pw_below_drewN | apply below_drew1) | exact HB.out))); (case aF => exact (fun _ _ => trivial)); (case aO => exact ((Kd.R_nil _ _ _ _ (fun _ => True)))); (case aS => exact (below_size (by repeat (first | (with_reducible first | exact HB.out | apply below_alloc | apply pw_below_drewN | apply below_drew1) | exact HB.out)))); (case aL => have := LMc2.out; omega); intro v236 w3 ho hb hg hat; rw [← Ny235.out] at ho; have n0_ := Aside0.mk (hb); have n1_ := Aside0.mk (ho); clear HB; have HB := n0_; have HO237 := n1_; clear n0_ n1_; clear ho hb hg hat))
    go_ret
    exact ⟨_, by first | rfl | (simp [errW_none, errW_some] <;> rfl) | (simp [*, errW_none, errW_some] <;> rfl), by (with_reducible repeat (first | apply Kd.R_alloc | apply Kd.R_drewN | apply Kd.R_drew)); exact HO237.out, by repeat (first | (with_reducible first | exact HB.out | apply below_alloc | apply pw_below_drewN | apply below_drew1) | exact HB.out)⟩
  rw [if_neg c2] at H
  exact absurd H (by simp)
end Go.Proofs.Ytkeekganabafbaa.X
end
section
namespace Go.Proofs.Ytkeekganabafbaa.Pure
set_option linter.unusedVariables false
set_option linter.unusedSimpArgs false
open Go.RowKit Go.Proofs.YtkeekganabafbaaW.PrintWords Go.Proofs.YtkeekganabafbaaW.PrintLast Go.Proofs.YtkeekganabafbaaW.PrintMore
theorem ev_pos {α : Type} {c : Prop} [Decidable c] {f g : Nat → Option α} {r : α} (h : c) (k : Ev f r) : Ev (fun n => if c then f n else g n) r := by
  simpa only [if_pos h] using k
theorem ev_neg {α : Type} {c : Prop} [Decidable c] {f g : Nat → Option α} {r : α} (h : ¬ c) (k : Ev g r) : Ev (fun n => if c then f n else g n) r := by
  simpa only [if_neg h] using k
theorem ev_some {α β : Type} {f : Nat → α → Option β} {o : Option α} {a : α} {r : β} (h : o = some a) (k : Ev (fun n => f n a) r) : Ev (fun n => o.bind (f n)) r := by
  subst h; exact k
theorem ev_eq {α : Type} {f : Nat → Option α} {r r' : α} (h : r = r') (k : Ev f r) : Ev f r' := h ▸ k
def BI (l : List Int) : Prop := ∀ x ∈ l, 0 ≤ x ∧ x < 256
theorem BI_nil : BI [] := fun _ h => by cases h
theorem BI_cons {c : Int} {l : List Int} (h0 : 0 ≤ c) (h1 : c < 256) (h : BI l) : BI (c :: l) := by
  intro x hx
  rcases List.mem_cons.1 hx with rfl | hx
  · exact ⟨h0, h1⟩
  exact h x hx
theorem BI_append {a b : List Int} (ha : BI a) (hb : BI b) : BI (a ++ b) := fun x hx => (List.mem_append.1 hx).elim (ha x) (hb x)
theorem BI_take {l : List Int} (h : BI l) (n : Nat) : BI (l.take n) := fun x hx => h x (List.mem_of_mem_take hx)
theorem BI_drop {l : List Int} (h : BI l) (n : Nat) : BI (l.drop n) := fun x hx => h x (List.mem_of_mem_drop hx)
theorem BI_of (l : List Int) (h : l.all (fun x => decide (0 ≤ x) && decide (x < 256)) = true) : BI l := by
  intro x hx
  have := List.all_eq_true.1 h x hx
  simpa using this
theorem rd_at (l : List Int) (i : Nat) (hi : i < l.length) : rd l (i : Int) = l[i] := by
  simp only [rd, Int.toNat_natCast, List.getD_eq_getElem?_getD, List.getElem?_eq_getElem hi, Option.getD_some]
theorem wf_i64 {x : Int} (h : (Lit.int .i64 x).wf = true) : -9223372036854775808 ≤ x ∧ x < 9223372036854775808 := by
  simp only [Lit.wf, Bool.and_eq_true, decide_eq_true_eq] at h
  have h1 : IntKind.i64.min = -9223372036854775808 := rfl
  have h2 : IntKind.i64.max = 9223372036854775807 := rfl
  omega
theorem w64 {x : Int} (h0 : -9223372036854775808 ≤ x) (h1 : x < 9223372036854775808) : wrap64 x = x := by unfold wrap64; omega
theorem mn_spec (a b : Int) : mn a b ≤ a ∧ mn a b ≤ b ∧ (mn a b = a ∨ mn a b = b) := by unfold mn; split <;> omega
def enc (n : Nat) : List Int := if h : n < 128 then [(n : Int)] else ((n % 128 + 128 : Nat) : Int) :: enc (n / 128)
termination_by n
decreasing_by omega
theorem enc_small (n : Nat) (h : n < 128) : enc n = [(n : Int)] := by rw [enc, dif_pos h]
theorem enc_big (n : Nat) (h : ¬ n < 128) : enc n = ((n % 128 + 128 : Nat) : Int) :: enc (n / 128) := by rw [enc, dif_neg h]
theorem enc_length (d : Nat) : ∀ n, n < 2 ^ (7 * (d + 1)) → (enc n).length ≤ d + 1 := by
  induction d with
  | zero => intro n h; rw [enc_small n (by simpa using h)]; simp
  | succ d ih =>
    intro n h
    by_cases hn : n < 128
    · rw [enc_small n hn]; simp
    rw [enc_big n hn, List.length_cons]
    have := ih (n / 128) (by
      rw [show 7 * (d + 1 + 1) = 7 * (d + 1) + 7 by omega, Nat.pow_add] at h
      omega)
    omega
theorem enc_pos (n : Nat) : 0 < (enc n).length := by
  by_cases hn : n < 128
  · rw [enc_small n hn]; simp
  rw [enc_big n hn]; simp
theorem enc_le8 (n : Nat) (h : n ≤ 9007199254740991) : (enc n).length ≤ 8 := enc_length 7 n (by omega)
theorem enc_BI (m : Nat) : ∀ n, n ≤ m → BI (enc n) := by
  induction m with
  | zero => intro n h; rw [enc_small n (by omega)]; exact BI_cons (by omega) (by omega) BI_nil
  | succ m ih =>
    intro n h
    by_cases hn : n < 128
    · rw [enc_small n hn]; exact BI_cons (by omega) (by omega) BI_nil
    rw [enc_big n hn]; exact BI_cons (by omega) (by omega) (ih _ (by omega))
def raw : Nat → List Int → Int × Nat × Nat × Bool
  | 0, _ => (4, 0, 0, false)
  | _ + 1, [] => (3, 0, 0, false)
  | d + 1, b :: l => if b < 128 then (0, b.toNat, 1, decide (b = 0)) else if (raw d l).1 = 0 then (0, (b.toNat - 128) + 128 * (raw d l).2.1, (raw d l).2.2.1 + 1, (raw d l).2.2.2) else ((raw d l).1, 0, 0, false)
def fin (n s : Nat) (z : Bool) : Int × Int × Int := if (z = true ∧ 1 < s) ∨ 9007199254740991 < n then (0, 0, 4) else ((n : Int), (s : Int), 0)
def out (acc p i : Nat) (r : Int × Nat × Nat × Bool) : Int × Int × Int := if r.1 = 0 then fin (acc + p * r.2.1) (i + r.2.2.1) r.2.2.2 else (0, 0, r.1)
def tk (l : List Int) : Int × Int × Int := out 0 1 0 (raw 8 l)
theorem raw_size (d : Nat) : ∀ l, (raw d l).1 = 0 → 1 ≤ (raw d l).2.2.1 ∧ (raw d l).2.2.1 ≤ l.length ∧ (raw d l).2.2.1 ≤ d := by
  induction d with
  | zero => intro l h; simp [raw] at h
  | succ d ih =>
    intro l h
    cases l with
    | nil => simp [raw] at h
    | cons b l =>
      by_cases hb : b < 128
      · simp [raw, hb]
      by_cases hr : (raw d l).1 = 0
      · have := ih l hr
        simp only [raw, if_neg hb, if_pos hr, List.length_cons]
        omega
      simp [raw, hb, hr] at h
theorem raw_err (d : Nat) : ∀ l, (raw d l).1 = 0 ∨ (raw d l).1 = 3 ∨ (raw d l).1 = 4 := by
  induction d with
  | zero => intro l; simp [raw]
  | succ d ih =>
    intro l
    cases l with
    | nil => simp [raw]
    | cons b l =>
      by_cases hb : b < 128
      · simp [raw, hb]
      by_cases hr : (raw d l).1 = 0
      · simp [raw, hb, hr]
      have := ih l
      simp only [raw, if_neg hb, if_neg hr]
      omega
theorem tk_spec (l : List Int) : (∃ n s : Nat, tk l = ((n : Int), (s : Int), 0) ∧ n ≤ 9007199254740991 ∧ 1 ≤ s ∧ s ≤ l.length ∧ raw 8 l = (0, n, s, (raw 8 l).2.2.2) ∧ ((raw 8 l).2.2.2 = true → s ≤ 1)) ∨ tk l = (0, 0, 3) ∨ tk l = (0, 0, 4) := by
  unfold tk out
  by_cases h : (raw 8 l).1 = 0
  · obtain ⟨h1, h2, h3⟩ := raw_size 8 l h
    rw [if_pos h]
    unfold fin
    simp only [Nat.zero_add, Nat.one_mul]
    split
    · exact Or.inr (Or.inr rfl)
    rename_i hc
    refine Or.inl ⟨_, _, rfl, by omega, h1, h2, ?_, fun hz => ?_⟩
    · exact Prod.ext h rfl
    apply Nat.le_of_not_lt
    intro h4
    exact hc (Or.inl ⟨hz, h4⟩)
  rw [if_neg h]
  rcases raw_err 8 l with he | he | he
  · exact absurd he h
  · rw [he]; exact Or.inr (Or.inl rfl)
  rw [he]; exact Or.inr (Or.inr rfl)
theorem raw_enc (d : Nat) : ∀ (n : Nat) (r : List Int), n < 2 ^ (7 * (d + 1)) → raw (d + 1) (enc n ++ r) = (0, n, (enc n).length, decide (n = 0)) := by
  induction d with
  | zero =>
    intro n r h
    have hn : n < 128 := by simpa using h
    rw [enc_small n hn]
    simp [raw, show (n : Int) < 128 by omega]
  | succ d ih =>
    intro n r h
    by_cases hn : n < 128
    · rw [enc_small n hn]
      simp [raw, show (n : Int) < 128 by omega]
    have h2 : n / 128 < 2 ^ (7 * (d + 1)) := by
      rw [show 7 * (d + 1 + 1) = 7 * (d + 1) + 7 by omega, Nat.pow_add] at h
      omega
    rw [enc_big n hn, List.cons_append, raw, if_neg (by omega), ih _ r h2, if_pos rfl]
    have e1 : decide (n / 128 = 0) = false := decide_eq_false (by omega)
    have e2 : decide (n = 0) = false := decide_eq_false (by omega)
    simp only [e1, e2, List.length_cons, Int.toNat_natCast, Prod.mk.injEq, and_true, true_and]
    omega
theorem tk_enc (n : Nat) (r : List Int) (h : n ≤ 9007199254740991) : tk (enc n ++ r) = ((n : Int), ((enc n).length : Int), 0) := by
  unfold tk out
  rw [raw_enc 7 n r (by omega), if_pos rfl]
  unfold fin
  rw [if_neg]
  · simp
  rintro (⟨h0, h1⟩ | h1)
  · have : n = 0 := by simpa using h0
    subst this
    rw [enc_small 0 (by omega)] at h1
    simp at h1
  simp at h1; omega
theorem enc_raw (d : Nat) : ∀ (l : List Int), BI l → (raw d l).1 = 0 → ((raw d l).2.2.2 = true → (raw d l).2.2.1 ≤ 1) → enc (raw d l).2.1 = l.take (raw d l).2.2.1 ∧ ((raw d l).2.2.2 = false → 0 < (raw d l).2.1) := by
  induction d with
  | zero => intro l _ h; simp [raw] at h
  | succ d ih =>
    intro l hB h hz
    cases l with
    | nil => simp [raw] at h
    | cons b l =>
      have hb := hB b (by simp)
      by_cases h1 : b < 128
      · simp only [raw, if_pos h1] at hz ⊢
        rw [enc_small _ (by omega)]
        refine ⟨by simp; omega, fun h0 => ?_⟩
        have : ¬ b = 0 := by simpa using h0
        omega
      by_cases hr : (raw d l).1 = 0
      · simp only [raw, if_neg h1, if_pos hr] at hz ⊢
        have hs := raw_size d l hr
        have hzf : (raw d l).2.2.2 = false := by
          cases hq : (raw d l).2.2.2 with
          | false => rfl
          | true => have := hz hq; omega
        obtain ⟨e, p⟩ := ih l (fun x hx => hB x (by simp [hx])) hr (fun hq => by rw [hzf] at hq; cases hq)
        have p := p hzf
        refine ⟨?_, fun _ => by omega⟩
        rw [enc_big _ (by omega), List.take_succ_cons, show (b.toNat - 128 + 128 * (raw d l).2.1) / 128 = (raw d l).2.1 by omega, e]
        congr 1
        omega
      simp [raw, h1, hr] at h
theorem enc_tk (l : List Int) (hB : BI l) (n s : Nat) (h : tk l = ((n : Int), (s : Int), 0)) : enc n = l.take s := by
  rcases tk_spec l with ⟨n', s', h1, _, _, _, h2, h3⟩ | h1 | h1
  · rw [h1] at h
    have e1 : n' = n := by have := congrArg (fun z => z.1) h; simp at this; omega
    have e2 : s' = s := by have := congrArg (fun z => z.2.1) h; simp at this; omega
    subst e1; subst e2
    have hn : (raw 8 l).2.1 = n' := by rw [h2]
    have hs : (raw 8 l).2.2.1 = s' := by rw [h2]
    have := (enc_raw 8 l hB (by rw [h2]) (fun hz => by rw [hs]; exact h3 hz)).1
    rwa [hn, hs] at this
  · rw [h1] at h; simp at h
  rw [h1] at h; simp at h
end Go.Proofs.Ytkeekganabafbaa.Pure
end
section
namespace Go.Proofs.Ytkeekganabafbaa.Crc
def P : Nat := 3988292384
def t (x : Nat) : Nat := (x / 2) ^^^ (if x % 2 = 1 then 3988292384 else 0)
def tn : Nat → Nat → Nat
  | 0, x => x
  | k + 1, x => tn k (t x)
theorem xor_mod2 (x y : Nat) : (x ^^^ y) % 2 = (x % 2) ^^^ (y % 2) := by
  have := @Nat.xor_mod_two_pow x y 1
  simpa using this
theorem xor_div2 (x y : Nat) : (x ^^^ y) / 2 = (x / 2) ^^^ (y / 2) := by
  have := @Nat.xor_div_two_pow x y 1
  simpa using this
theorem t_xor (x y : Nat) : t (x ^^^ y) = t x ^^^ t y := by
  unfold t
  rw [xor_div2, xor_mod2]
  rcases Nat.mod_two_eq_zero_or_one x with hx | hx <;> rcases Nat.mod_two_eq_zero_or_one y with hy | hy <;> simp only [hx, hy] <;> simp
  · ac_rfl
  · ac_rfl
  rw [show x / 2 ^^^ 3988292384 ^^^ (y / 2 ^^^ 3988292384) = x / 2 ^^^ y / 2 ^^^ (3988292384 ^^^ 3988292384) by ac_rfl]; simp
theorem tn_xor (k x y : Nat) : tn k (x ^^^ y) = tn k x ^^^ tn k y := by
  induction k generalizing x y with
  | zero => rfl
  | succ k ih => simp only [tn, t_xor, ih]
theorem t_double (x : Nat) : t (2 * x) = x := by
  unfold t; simp
theorem tn_shift (k x : Nat) : tn k (2 ^ k * x) = x := by
  induction k generalizing x with
  | zero => simp [tn]
  | succ k ih =>
    simp only [tn]
    rw [show 2 ^ (k + 1) * x = 2 * (2 ^ k * x) by rw [Nat.pow_succ]; ac_rfl, t_double, ih]
theorem tn_add (j k x : Nat) : tn (j + k) x = tn k (tn j x) := by
  induction j generalizing x with
  | zero => simp [tn]
  | succ j ih => rw [show j + 1 + k = (j + k) + 1 by omega]; simp only [tn, ih]
theorem t_zero : t 0 = 0 := by decide
theorem tn_zero (k : Nat) : tn k 0 = 0 := by
  induction k with
  | zero => rfl
  | succ k ih => simp only [tn, t_zero, ih]
theorem t_lt (x : Nat) (h : x < 4294967296) : t x < 4294967296 := by
  unfold t
  exact Nat.xor_lt_two_pow (n := 32) (by omega) (by split <;> omega)
theorem tn_lt (k x : Nat) (h : x < 4294967296) : tn k x < 4294967296 := by
  induction k generalizing x with
  | zero => exact h
  | succ k ih => exact ih _ (t_lt x h)
def u (x : Nat) : Nat := if 2147483648 ≤ x then (2 * (x ^^^ 3988292384)) % 4294967296 + 1 else 2 * x
theorem testBit31 (x : Nat) (h : x < 4294967296) : x.testBit 31 = decide (2147483648 ≤ x) := by
  rw [Nat.testBit_eq_decide_div_mod_eq]
  by_cases hx : 2147483648 ≤ x
  · have : x / 2 ^ 31 = 1 := by omega
    simp [this, hx]
  have : x / 2 ^ 31 = 0 := by omega
  simp [this, hx]
theorem xor_P_big (y : Nat) (h : y < 2147483648) : 2147483648 ≤ y ^^^ 3988292384 := by
  have hlt : y ^^^ 3988292384 < 4294967296 := Nat.xor_lt_two_pow (n := 32) (by omega) (by omega)
  have : (y ^^^ 3988292384).testBit 31 = true := by
    rw [Nat.testBit_xor, testBit31 y (by omega)]
    have : decide (2147483648 ≤ y) = false := by simpa using h
    rw [this]; decide
  rw [testBit31 _ hlt] at this
  simpa using this
theorem u_t (x : Nat) (h : x < 4294967296) : u (t x) = x := by
  unfold t
  rcases Nat.mod_two_eq_zero_or_one x with hx | hx
  · simp only [hx]
    simp only [show ¬ ((0 : Nat) = 1) by omega, if_false, Nat.xor_zero]
    unfold u
    rw [if_neg (by omega)]; omega
  simp only [hx, if_true]
  have := xor_P_big (x / 2) (by omega)
  unfold u
  rw [if_pos this, Nat.xor_assoc, Nat.xor_self, Nat.xor_zero]; omega
def un : Nat → Nat → Nat
  | 0, x => x
  | k + 1, x => un k (u x)
theorem un_succ (k x : Nat) : un (k + 1) x = u (un k x) := by
  induction k generalizing x with
  | zero => rfl
  | succ k ih => rw [un, ih]; rfl
theorem un_tn (k x : Nat) (h : x < 4294967296) : un k (tn k x) = x := by
  induction k generalizing x with
  | zero => rfl
  | succ k ih => rw [un_succ, tn, ih _ (t_lt x h), u_t x h]
theorem tn_inj (k x y : Nat) (hx : x < 4294967296) (hy : y < 4294967296) (h : tn k x = tn k y) : x = y := by
  rw [← un_tn k x hx, h, un_tn k y hy]
def tk (s c : Nat) : Nat := tn 8 (s ^^^ c)
def run (s : Nat) : List Nat → Nat
  | [] => s
  | c :: l => run (tk s c) l
def on (s : Nat) (l : List Nat) : Nat := 4294967295 ^^^ run (4294967295 ^^^ s) l
theorem run_append (s : Nat) (a b : List Nat) : run s (a ++ b) = run (run s a) b := by
  induction a generalizing s with
  | nil => rfl
  | cons c a ih => simp only [List.cons_append, run, ih]
theorem on_append (s : Nat) (a b : List Nat) : on s (a ++ b) = on (on s a) b := by
  unfold on
  rw [run_append, ← Nat.xor_assoc, Nat.xor_self, Nat.zero_xor]
def B (l : List Nat) : Prop := ∀ c ∈ l, c < 256
theorem tk_lt (s c : Nat) (hs : s < 4294967296) (hc : c < 256) : tk s c < 4294967296 :=
  tn_lt _ _ (Nat.xor_lt_two_pow (n := 32) (by omega) (by omega))
theorem run_lt (s : Nat) (l : List Nat) (hs : s < 4294967296) (hl : B l) : run s l < 4294967296 := by
  induction l generalizing s with
  | nil => exact hs
  | cons c l ih => exact ih _ (tk_lt s c hs (hl c (by simp))) (fun d hd => hl d (by simp [hd]))
theorem not_lt (s : Nat) (hs : s < 4294967296) : 4294967295 ^^^ s < 4294967296 := Nat.xor_lt_two_pow (n := 32) (by omega) (by omega)
theorem on_lt (s : Nat) (l : List Nat) (hs : s < 4294967296) (hl : B l) : on s l < 4294967296 :=
  not_lt _ (run_lt _ _ (not_lt s hs) hl)
theorem not_not (s : Nat) : 4294967295 ^^^ (4294967295 ^^^ s) = s := by rw [← Nat.xor_assoc, Nat.xor_self, Nat.zero_xor]
def word : List Nat → Nat
  | [] => 0
  | c :: l => c + 256 * word l
theorem xor_add (c x : Nat) (hc : c < 256) : c + 256 * x = (256 * x) ^^^ c := by
  have h1 : 256 * x + c = 2 ^ 8 * x + c := by simp
  rw [Nat.add_comm, h1, Nat.two_pow_add_eq_or_of_lt (by omega)]
  apply Nat.eq_of_testBit_eq
  intro i
  rw [Nat.testBit_or, Nat.testBit_xor]
  by_cases hi : i < 8
  · have : (2 ^ 8 * x).testBit i = false := by
      rw [Nat.testBit_two_pow_mul]; simp; omega
    rw [this]; simp
  have : c.testBit i = false := Nat.testBit_lt_two_pow (Nat.lt_of_lt_of_le hc (show 2 ^ 8 ≤ 2 ^ i from Nat.pow_le_pow_right (by omega) (by omega)))
  rw [this]; simp
theorem run_word (l : List Nat) (hl : B l) (s : Nat) : run s l = tn (8 * l.length) (s ^^^ word l) := by
  induction l generalizing s with
  | nil => simp [run, word, tn]
  | cons c l ih =>
    simp only [run, word, List.length_cons]
    rw [ih (fun d hd => hl d (by simp [hd]))]
    rw [show 8 * (l.length + 1) = 8 + 8 * l.length by omega, tn_add]
    congr 1
    rw [xor_add c _ (hl c (by simp)), show s ^^^ (256 * word l ^^^ c) = (s ^^^ c) ^^^ (2 ^ 8 * word l) by simp; ac_rfl, tn_xor, tn_shift]
    rfl
def four (n : Nat) : List Nat := [n % 256, n / 256 % 256, n / 65536 % 256, n / 16777216 % 256]
theorem four_B (n : Nat) : B (four n) := by
  intro c hc
  simp only [four, List.mem_cons, List.not_mem_nil, or_false] at hc
  omega
theorem word_four (n : Nat) (h : n < 4294967296) : word (four n) = n := by
  simp only [four, word]
  omega
theorem on_four (s n : Nat) (hn : n < 4294967296) : on s (four n) = 4294967295 ^^^ tn 32 ((4294967295 ^^^ s) ^^^ n) := by
  unfold on
  rw [run_word _ (four_B n), word_four n hn]
  rfl
theorem residue (s : Nat) (h : s < 4294967296) : on s (four s) = 558161692 := by
  rw [on_four s s h, Nat.xor_assoc, Nat.xor_self, Nat.xor_zero]
  decide +kernel
def lay : List Nat → List Nat → List Nat
  | [], l => l
  | _, [] => []
  | d :: ds, c :: l => (c ^^^ d) :: lay ds l
theorem run_lay (ds l : List Nat) (s r : Nat) (h : ds.length = l.length) : run (s ^^^ r) (lay ds l) = run s l ^^^ run r ds := by
  induction l generalizing ds s r with
  | nil =>
    have : ds = [] := List.length_eq_zero_iff.mp h
    subst this; rfl
  | cons c l ih =>
    cases ds with
    | nil => simp at h
    | cons d ds =>
      simp only [lay, run]
      rw [← ih ds _ _ (by simpa using h)]
      congr 1
      unfold tk
      rw [← tn_xor]
      congr 1
      ac_rfl
theorem word_burst (n k m : Nat) (hn : n < 4294967296) (hk : k < 8) (hm : 0 < m) : tn (8 * m) ((n * 2 ^ k) % 2 ^ (8 * m)) = 0 → (n * 2 ^ k) % 2 ^ (8 * m) = 0 := by
  intro h
  have e : (n * 2 ^ k) % 2 ^ (8 * m) = 2 ^ k * (n % 2 ^ (8 * m - k)) := by
    rw [show 2 ^ (8 * m) = 2 ^ k * 2 ^ (8 * m - k) by rw [← Nat.pow_add]; congr 1; omega, Nat.mul_comm n, Nat.mul_mod_mul_left]
  rw [e] at h ⊢
  rw [show 8 * m = k + (8 * m - k) by omega, tn_add, tn_shift] at h
  rw [show k + (8 * m - k) - k = 8 * m - k by omega] at h
  have hlt : n % 2 ^ (8 * m - k) < 4294967296 := Nat.lt_of_le_of_lt (Nat.mod_le _ _) hn
  have := tn_inj (8 * m - k) _ 0 hlt (by omega) (by rw [h, tn_zero])
  rw [this]; simp
end Go.Proofs.Ytkeekganabafbaa.Crc
end
section
namespace Go.Proofs.Ytkeekganabafbaa.Pure
set_option linter.unusedVariables false
set_option linter.unusedSimpArgs false
open Go.RowKit Go.Proofs.Ytkeekganabafbaa.X Go.Proofs.YtkeekganabafbaaW.PrintWords Go.Proofs.YtkeekganabafbaaW.PrintLast Go.Proofs.YtkeekganabafbaaW.PrintMore
theorem eq_loop (a b : List Int) (hab : a.length = b.length) (hn : a.length ≤ 9223372036854775800) (d : Nat) : ∀ (i : Nat), i + d = a.length →
    Ev (fun k => incunableref00_EqBytes.l0 k a b (i : Int)) (decide (a.drop i = b.drop i)) := by
  induction d with
  | zero =>
    intro i hi
    refine Ev.step (f := fun _ => some (decide (a.drop i = b.drop i))) (fun k => ?_) (Ev.now _)
    simp only [incunableref00_EqBytes.l0]
    rw [if_neg (by omega), List.drop_eq_nil_of_le (by omega), List.drop_eq_nil_of_le (by omega)]
    simp
  | succ d ih =>
    intro i hi
    have ha : i < a.length := by omega
    have hb : i < b.length := by omega
    have e : ∀ k, incunableref00_EqBytes.l0 (k + 1) a b (i : Int) = if a[i] = b[i] then incunableref00_EqBytes.l0 k a b ((i + 1 : Nat) : Int) else some false := fun k => by
      simp only [incunableref00_EqBytes.l0]
      rw [if_pos (by omega), if_pos (by omega), if_pos (by omega), rd_at a i ha, rd_at b i hb, w64 (by omega) (by omega)]; rfl
    refine Ev.step e ?_
    rw [List.drop_eq_getElem_cons ha, List.drop_eq_getElem_cons hb]
    by_cases h : a[i] = b[i]
    · simp only [if_pos h, List.cons.injEq, h, true_and]
      exact ih (i + 1) (by omega)
    simp only [if_neg h, List.cons.injEq, h, false_and]
    exact Ev.now _
theorem eq_ev (a b : List Int) (hn : a.length ≤ 9223372036854775800) : Ev (fun k => incunableref00_EqBytes.f k a b) (decide (a = b)) := by
  unfold incunableref00_EqBytes.f
  by_cases h : a.length = b.length
  · simp only [if_pos (show (a.length : Int) = (b.length : Int) by omega)]
    have := eq_loop a b h hn a.length 0 (by omega)
    simpa using this
  simp only [if_neg (show ¬ (a.length : Int) = (b.length : Int) by omega)]
  rw [show decide (a = b) = false from decide_eq_false (fun e => h (by rw [e]))]
  exact Ev.now _
theorem clone_some (l : List Int) (h : l.length < 225179981368000) : slices_Clone_byte_byte.f l = some l := by
  unfold slices_Clone_byte_byte.f
  rw [if_pos h]
theorem byte_or (n : Nat) : Go.bits .or .u8 ((n : Int) % 256) 128 = ((n % 128 + 128 : Nat) : Int) := by
  rw [show (n : Int) % 256 = ((n % 256 : Nat) : Int) by omega]
  have h : ∀ b : Fin 256, b.val ||| 128 = b.val % 128 + 128 := by decide +kernel
  have h2 : Go.bits .or .u8 ((n % 256 : Nat) : Int) 128 = ((n % 256 ||| 128 : Nat) : Int) := u8_or_nat _ 128 (by omega) (by omega)
  rw [h2, h ⟨n % 256, by omega⟩]
  simp only []
  omega
theorem num_loop (d : Nat) : ∀ (n : Nat) (p : List Int), n < 2 ^ (7 * (d + 1)) → p.length + d + 1 ≤ 100 → Ev (fun k => varnum_Num.l0 k (n : Int) p) (p ++ enc n, 0) := by
  induction d with
  | zero =>
    intro n p h hp
    have hn : n < 128 := by simpa using h
    refine Ev.step (f := fun k => _) (fun k => by simp only [varnum_Num.l0]; rfl) ?_
    refine ev_neg (by omega) (ev_pos (by omega) ?_)
    rw [enc_small n hn, show (n : Int) % 256 = (n : Int) by omega]
    exact Ev.now _
  | succ d ih =>
    intro n p h hp
    refine Ev.step (f := fun k => _) (fun k => by simp only [varnum_Num.l0]; rfl) ?_
    by_cases hn : n < 128
    · refine ev_neg (by omega) (ev_pos (by omega) ?_)
      rw [enc_small n hn, show (n : Int) % 256 = (n : Int) by omega]
      exact Ev.now _
    refine ev_pos (by omega) (ev_pos (by omega) ?_)
    rw [byte_or, show (n : Int) / 128 = ((n / 128 : Nat) : Int) by omega]
    have := ih (n / 128) (p ++ [((n % 128 + 128 : Nat) : Int)]) (by
      rw [show 7 * (d + 1 + 1) = 7 * (d + 1) + 7 by omega, Nat.pow_add] at h
      omega) (by simp; omega)
    rw [enc_big n hn]
    simpa using this
def numI (a : Int) : List Int × Int := if 0 ≤ a ∧ a ≤ 9007199254740991 then (enc a.toNat, 0) else ([], 2)
theorem numI_ok (n : Nat) (h : n ≤ 9007199254740991) : numI (n : Int) = (enc n, 0) := by
  unfold numI
  rw [if_pos (by omega), Int.toNat_natCast]
theorem num_ev (a : Int) : Ev (fun k => varnum_Num.f k a) (numI a) := by
  unfold varnum_Num.f numI
  by_cases h0 : a < 0
  · refine ev_pos h0 ?_
    rw [if_neg (by omega)]
    refine Ev.step (f := fun k => _) (fun k => by simp only [varnum_Num.j0]; rfl) ?_
    exact ev_pos (by trivial) (Ev.now _)
  refine ev_neg h0 ?_
  refine Ev.step (f := fun k => _) (fun k => by simp only [varnum_Num.j0]; rfl) ?_
  by_cases h1 : a > 9007199254740991
  · rw [if_neg (by omega)]
    exact ev_pos (by simpa using h1) (Ev.now _)
  rw [if_pos (by omega)]
  obtain ⟨n, rfl⟩ := Int.eq_ofNat_of_zero_le (show 0 ≤ a by omega)
  refine ev_neg (by simpa using h1) ?_
  have := num_loop 7 n [] (by omega) (by simp)
  simpa using this
theorem byte_more (b : Int) (h0 : 0 ≤ b) (h1 : b < 256) : (Go.bits .and .u8 b 128 = 0 ↔ b < 128) ∧ Go.bits .andNot .u8 b 128 = ((b.toNat % 128 : Nat) : Int) := by
  obtain ⟨n, rfl⟩ := Int.eq_ofNat_of_zero_le h0
  have h : ∀ b : Fin 256, (b.val &&& 128 = 0 ↔ b.val < 128) ∧ b.val &&& 127 = b.val % 128 := by decide +kernel
  have hn := h ⟨n, by omega⟩
  simp only at hn
  have e1 : Go.bits .and .u8 (n : Int) 128 = ((n &&& 128 : Nat) : Int) := u8_and_nat n 128 (by omega) (by omega)
  have e2 : Go.bits .andNot .u8 (n : Int) 128 = ((n &&& (255 - 128) : Nat) : Int) := u8_andNot_nat n 128 (by omega) (by omega)
  rw [e1, e2, Int.toNat_natCast, show 255 - 128 = 127 from rfl, hn.2]
  refine ⟨?_, rfl⟩
  have := hn.1
  omega
theorem pow_le56 (i : Nat) (hi : i ≤ 8) : 2 ^ (7 * i) ≤ 2 ^ 56 := Nat.pow_le_pow_right (by omega) (by omega)
theorem lay_or (acc x i : Nat) (hi : i < 8) (ha : acc < 2 ^ (7 * i)) (hx : x < 128) :
    Go.bits .or .i64 (acc : Int) (shl .i64 (wrap64 (x : Int)) (wrap64 (7 * (i : Int)))) = ((acc + 2 ^ (7 * i) * x : Nat) : Int) ∧ acc + 2 ^ (7 * i) * x < 2 ^ (7 * (i + 1)) := by
  have hp : acc + 2 ^ (7 * i) * x < 2 ^ (7 * (i + 1)) := by
    rw [show 7 * (i + 1) = 7 * i + 7 by omega, Nat.pow_add]
    have : 2 ^ (7 * i) * (x + 1) ≤ 2 ^ (7 * i) * 2 ^ 7 := Nat.mul_le_mul_left _ (by omega)
    rw [Nat.mul_add] at this
    omega
  have h56 := pow_le56 (i + 1) (by omega)
  refine ⟨?_, hp⟩
  rw [w64 (by omega) (by omega), w64 (by omega) (by omega)]
  unfold shl
  have hw : ∀ n : Int, 0 ≤ n → n < 2 ^ 63 → IntKind.i64.wrap n = n := fun n a b => by rw [IntKind.wrap_i64]; omega
  rw [show min (7 * (i : Int)).toNat IntKind.i64.bits = 7 * i by simp [IntKind.bits]; omega, show (x : Int) * 2 ^ (7 * i) = ((2 ^ (7 * i) * x : Nat) : Int) by rw [Nat.mul_comm (2 ^ (7 * i)) x]; simp, hw _ (by omega) (by
    have : 2 ^ (7 * i) * x < 2 ^ 56 := by omega
    have : ((2 ^ (7 * i) * x : Nat) : Int) < 2 ^ 56 := by exact_mod_cast this
    omega)]
  have hb := (bits_nat .i64 63 (by decide) hw acc (2 ^ (7 * i) * x) (by omega) (by omega)).2
  rw [hb, Nat.or_comm, ← Nat.two_pow_add_eq_or_of_lt ha x, Nat.add_comm]
theorem fin_zero (n s : Nat) (z : Bool) (hz : z = true) : fin n s z = if 1 < s then (0, 0, 4) else if 9007199254740991 < n then (0, 0, 4) else ((n : Int), (s : Int), 0) := by
  subst hz
  unfold fin
  by_cases h1 : 1 < s
  · simp [h1]
  by_cases h2 : 9007199254740991 < n <;> simp [h1, h2]
theorem fin_more (n s : Nat) (z : Bool) (hz : z = false) : fin n s z = if 9007199254740991 < n then (0, 0, 4) else ((n : Int), (s : Int), 0) := by
  subst hz
  unfold fin
  by_cases h2 : 9007199254740991 < n <;> simp [h2]
theorem take_loop (l : List Int) (hB : BI l) (d : Nat) : ∀ (i acc : Nat), i + d = 8 → acc < 2 ^ (7 * i) → i ≤ l.length → Ev (fun k => varnum_take.l0 k l (acc : Int) (i : Int)) (out acc (2 ^ (7 * i)) i (raw d (l.drop i))) := by
  induction d with
  | zero =>
    intro i acc hi ha hl
    refine Ev.step (f := fun k => _) (fun k => by simp only [varnum_take.l0]; rfl) ?_
    refine ev_pos (by omega) ?_
    exact Ev.now _
  | succ d ih =>
    intro i acc hi ha hl
    refine Ev.step (f := fun k => _) (fun k => by simp only [varnum_take.l0]; rfl) ?_
    refine ev_neg (by omega) ?_
    by_cases hlt : i = l.length
    · refine ev_pos (by omega) ?_
      rw [List.drop_eq_nil_of_le (by omega)]
      exact Ev.now _
    have hlt : i < l.length := by omega
    have hb := hB _ (List.getElem_mem hlt)
    obtain ⟨m1, m2⟩ := byte_more l[i] hb.1 hb.2
    obtain ⟨o1, o2⟩ := lay_or acc (l[i].toNat % 128) i (by omega) ha (by omega)
    refine ev_neg (by omega) (ev_pos (by omega) (ev_pos (by omega) ?_))
    rw [rd_at l i hlt, m2, o1]
    refine ev_pos (by rw [w64 (by omega) (by omega)]; omega) ?_
    rw [List.drop_eq_getElem_cons hlt, w64 (x := (i : Int) + 1) (by omega) (by omega)]
    by_cases h1 : l[i] < 128
    · refine ev_pos (m1.2 h1) ?_
      rw [show l[i].toNat % 128 = l[i].toNat by omega]
      simp only [raw, if_pos h1, out, if_pos]
      by_cases hz : l[i] = 0
      · refine ev_pos hz ?_
        rw [fin_zero _ _ _ (decide_eq_true hz)]
        by_cases h2 : 1 < i + 1
        · rw [if_pos h2]
          exact ev_pos (by omega) (Ev.now _)
        rw [if_neg h2]
        refine ev_neg (by omega) ?_
        by_cases h3 : 9007199254740991 < acc + 2 ^ (7 * i) * l[i].toNat
        · rw [if_pos h3]; exact ev_pos (by omega) (Ev.now _)
        rw [if_neg h3]; exact ev_neg (by omega) (ev_eq rfl (Ev.now _))
      refine ev_neg hz ?_
      rw [fin_more _ _ _ (decide_eq_false hz)]
      by_cases h3 : 9007199254740991 < acc + 2 ^ (7 * i) * l[i].toNat
      · rw [if_pos h3]; exact ev_pos (by omega) (Ev.now _)
      rw [if_neg h3]; exact ev_neg (by omega) (ev_eq rfl (Ev.now _))
    refine ev_neg (fun h => h1 (m1.1 h)) ?_
    have := ih (i + 1) (acc + 2 ^ (7 * i) * (l[i].toNat % 128)) (by omega) o2 (by omega)
    refine ev_eq ?_ this
    simp only [raw, if_neg h1]
    by_cases hr : (raw d (l.drop (i + 1))).1 = 0
    · simp only [out, if_pos hr, if_pos]
      have e1 : acc + 2 ^ (7 * i) * (l[i].toNat % 128) + 2 ^ (7 * (i + 1)) * (raw d (l.drop (i + 1))).2.1 = acc + 2 ^ (7 * i) * (l[i].toNat - 128 + 128 * (raw d (l.drop (i + 1))).2.1) := by
        rw [show l[i].toNat % 128 = l[i].toNat - 128 by omega, show 7 * (i + 1) = 7 * i + 7 by omega, Nat.pow_add, Nat.mul_add, Nat.mul_assoc, Nat.add_assoc]
      rw [e1, show i + 1 + (raw d (l.drop (i + 1))).2.2.1 = i + ((raw d (l.drop (i + 1))).2.2.1 + 1) by omega]
    simp only [out, if_neg hr]
theorem take_ev (l : List Int) (hB : BI l) : Ev (fun k => varnum_take.f k l) (tk l) := by
  unfold varnum_take.f tk
  have := take_loop l hB 8 0 0 (by omega) (by omega) (by omega)
  simpa using this
def takeI (l : List Int) : Int × List Int × Int := if (tk l).2.2 = 0 then ((tk l).1, l.drop (tk l).2.1.toNat, 0) else (0, [], (tk l).2.2)
def textI (t : List Int) (most : Int) : List Int × Int := if most < 0 then ([], 2) else if (t.length : Int) > most then ([], 5) else (enc t.length ++ t, 0)
theorem text_ev (t : List Int) (most : Int) (hn : t.length ≤ 140737488355300) : Ev (fun k => varnum_Text.f k t most) (textI t most) := by
  unfold varnum_Text.f textI
  by_cases h0 : most < 0
  · rw [if_pos h0]; exact ev_pos h0 (Ev.now _)
  rw [if_neg h0]
  refine ev_neg h0 ?_
  by_cases h1 : (t.length : Int) > most
  · rw [if_pos h1]; exact ev_pos h1 (Ev.now _)
  rw [if_neg h1]
  refine ev_neg h1 ?_
  refine Ev.bind (f := fun k t => _) (num_ev _) ?_
  rw [numI_ok _ (by omega)]
  have := enc_le8 t.length (by omega)
  exact ev_pos rfl (ev_pos (by show (enc t.length).length + _ < _; omega) (Ev.now _))
def takeTextI (l : List Int) (most : Int) : List Int × List Int × Int :=
  if most < 0 then ([], [], 2) else if (takeI l).2.2 = 0 then (if (takeI l).1 > most then ([], [], 5) else if (takeI l).1 > ((takeI l).2.1.length : Int) then ([], [], 3) else ((takeI l).2.1.take (takeI l).1.toNat, (takeI l).2.1.drop (takeI l).1.toNat, 0)) else ([], [], (takeI l).2.2)
theorem takeI_ok (l : List Int) (n s : Nat) (h : tk l = ((n : Int), (s : Int), 0)) : takeI l = ((n : Int), l.drop s, 0) := by
  unfold takeI
  rw [h]; simp
theorem takeI_err (l : List Int) (e : Int) (h : tk l = (0, 0, e)) (he : ¬ e = 0) : takeI l = (0, [], e) := by
  unfold takeI
  rw [h]; simp [he]
theorem takeText_ev (l : List Int) (most : Int) (hB : BI l) (hn : l.length < 225179981368000) : Ev (fun k => varnum_TakeText.f k l most) (takeTextI l most) := by
  unfold varnum_TakeText.f takeTextI
  by_cases h0 : most < 0
  · rw [if_pos h0]; exact ev_pos h0 (Ev.now _)
  rw [if_neg h0]
  refine ev_neg h0 ?_
  refine Ev.bind (f := fun k t => _) (take_ev l hB) ?_
  rcases tk_spec l with ⟨n, s, h1, h2, h3, h4, _⟩ | h1 | h1
  · rw [takeI_ok l n s h1, h1]
    refine ev_pos rfl ?_
    rw [if_pos rfl]
    dsimp only
    by_cases h5 : (n : Int) > most
    · simp only [if_pos h5]; exact Ev.now _
    simp only [if_neg h5]
    have e1 : wrap64 ((l.length : Int) - (s : Int)) = ((l.drop s).length : Int) := by rw [w64 (by omega) (by omega), List.length_drop]; omega
    have e2 : wrap64 ((s : Int) + (n : Int)) = ((s + n : Nat) : Int) := by rw [w64 (by omega) (by omega)]; omega
    simp only [e1, e2]
    by_cases h6 : (n : Int) > ((l.drop s).length : Int)
    · simp only [if_pos h6]; exact Ev.now _
    simp only [if_neg h6]
    have h7 : s + n ≤ l.length := by rw [List.length_drop] at h6; omega
    refine ev_pos (by omega) (ev_pos (by omega) (ev_pos (by omega) ?_))
    simp only [Int.toNat_natCast]
    refine ev_some (f := fun k t => _) (clone_some _ (by simp; omega)) (ev_pos (by omega) ?_)
    refine ev_some (f := fun k t => _) (clone_some _ (by simp; omega)) (ev_eq ?_ (Ev.now _))
    rw [List.drop_take, List.drop_drop, show s + n - s = n by omega]
  · rw [takeI_err l 3 h1 (by decide), h1]
    refine ev_neg (by decide) ?_
    rw [if_neg (by decide)]
    exact Ev.now _
  rw [takeI_err l 4 h1 (by decide), h1]
  refine ev_neg (by decide) ?_
  rw [if_neg (by decide)]
  exact Ev.now _
theorem takeI_range (l : List Int) : 0 ≤ (takeI l).1 ∧ (takeI l).1 ≤ 9007199254740991 ∧ (takeI l).2.1.length ≤ l.length := by
  rcases tk_spec l with ⟨n, s, h1, h2, h3, h4, _⟩ | h1 | h1
  · rw [takeI_ok l n s h1]
    refine ⟨by simp, by simp; omega, by simp⟩
  · rw [takeI_err l 3 h1 (by decide)]; simp
  rw [takeI_err l 4 h1 (by decide)]; simp
theorem textI_ok (t : List Int) (most : Int) (h : (t.length : Int) ≤ most) : textI t most = (enc t.length ++ t, 0) := by
  unfold textI
  rw [if_neg (by omega), if_neg (by omega)]
theorem takeTextI_of (l : List Int) (most : Int) (n s : Nat) (h : tk l = ((n : Int), (s : Int), 0)) (h0 : 0 ≤ most) :
    takeTextI l most = if (n : Int) > most then ([], [], 5) else if (n : Int) > ((l.drop s).length : Int) then ([], [], 3) else ((l.drop s).take n, (l.drop s).drop n, 0) := by
  unfold takeTextI
  rw [if_neg (by omega), takeI_ok l n s h, if_pos rfl]
  simp only [Int.toNat_natCast]
theorem takeTextI_bad (l : List Int) (most e : Int) (h : tk l = (0, 0, e)) (he : ¬ e = 0) (h0 : 0 ≤ most) : takeTextI l most = ([], [], e) := by
  unfold takeTextI
  rw [if_neg (by omega), takeI_err l e h he, if_neg he]
theorem takeTextI_enc (t r : List Int) (most : Int) (h : (t.length : Int) ≤ most) (hn : t.length ≤ 9007199254740991) : takeTextI (enc t.length ++ (t ++ r)) most = (t, r, 0) := by
  rw [takeTextI_of _ most _ _ (tk_enc t.length (t ++ r) hn) (by omega), if_neg (by omega), if_neg (by simp; omega)]
  simp
def nat (l : List Int) : List Nat := l.map Int.toNat
theorem nat_B {l : List Int} (h : BI l) : Crc.B (nat l) := by
  intro c hc
  obtain ⟨x, hx, rfl⟩ := List.mem_map.1 hc
  have := h x hx
  omega
theorem nat_append (a b : List Int) : nat (a ++ b) = nat a ++ nat b := by simp [nat]
theorem rd_nat {l : List Int} (h : BI l) (i : Nat) (hi : i < l.length) : rd l (i : Int) = (((nat l)[i]'(by simpa [nat] using hi) : Nat) : Int) ∧ (nat l)[i]'(by simpa [nat] using hi) < 256 := by
  have hx := h l[i] (List.getElem_mem hi)
  simp only [rd, Int.toNat_natCast, List.getD_eq_getElem?_getD, List.getElem?_eq_getElem hi, Option.getD_some, nat, List.getElem_map]
  omega
theorem wf_u32 {x : Int} (h : (Lit.int .u32 x).wf = true) : 0 ≤ x ∧ x < 4294967296 := by
  simp only [Lit.wf, Bool.and_eq_true, decide_eq_true_eq] at h
  have h1 : IntKind.u32.min = 0 := rfl
  have h2 : IntKind.u32.max = 4294967295 := rfl
  omega
theorem bit_step (x : Nat) (hx : x < 4294967296) :
    (Go.bits .and .u32 (x : Int) 1 = 1 ↔ x % 2 = 1) ∧ Go.bits .xor .u32 ((x : Int) / 2) 3988292384 = ((x / 2 ^^^ 3988292384 : Nat) : Int) := by
  constructor
  · rw [u32_and (x : Int) 1 (by omega) (by omega) (by omega) (by omega)]
    simp only [Int.toNat_natCast, show (1 : Int).toNat = 1 from rfl, Nat.and_one_is_mod]
    omega
  rw [show (x : Int) / 2 = ((x / 2 : Nat) : Int) by omega]
  exact u32_xor_nat (x / 2) 3988292384 (by omega) (by omega)
theorem t_of (x : Nat) : Crc.t x = if x % 2 = 1 then x / 2 ^^^ 3988292384 else x / 2 := by
  unfold Crc.t; split <;> simp
theorem roll_loop (d : Nat) : ∀ (i x : Nat), i + d = 8 → x < 4294967296 → Ev (fun k => crc_roll.l0 k (x : Int) (i : Int)) ((Crc.tn d x : Nat) : Int) := by
  induction d with
  | zero =>
    intro i x hi hx
    refine Ev.step (f := fun _ => some (x : Int)) (fun k => ?_) (Ev.now _)
    simp only [crc_roll.l0]
    rw [if_neg (by omega)]
  | succ d ih =>
    intro i x hi hx
    obtain ⟨h1, h2⟩ := bit_step x hx
    refine Ev.step (f := fun k => crc_roll.l0 k ((Crc.t x : Nat) : Int) ((i + 1 : Nat) : Int)) (fun k => ?_) (ih (i + 1) (Crc.t x) (by omega) (Crc.t_lt x hx))
    simp only [crc_roll.l0]
    rw [if_pos (by omega), h2, w64 (by omega) (by omega), t_of]
    by_cases hb : x % 2 = 1
    · rw [if_pos (h1.2 hb), if_pos hb]; rfl
    rw [if_neg (fun h => hb (h1.1 h)), if_neg hb, show (x : Int) / 2 = ((x / 2 : Nat) : Int) by omega]; rfl
theorem roll_ev (c : Nat) (hc : c < 256) : Ev (fun k => crc_roll.f k (c : Int)) ((Crc.tn 8 c : Nat) : Int) := by
  unfold crc_roll.f
  rw [show ((c : Int) % 4294967296) = (c : Int) by omega]
  exact roll_loop 8 0 c (by omega) (by omega)
theorem tk_parts (s c : Nat) (hc : c < 256) : Crc.tk s c = s / 256 ^^^ Crc.tn 8 ((s % 256) ^^^ c) := by
  unfold Crc.tk
  have h := Crc.xor_add (s % 256) (s / 256) (by omega)
  rw [show s % 256 + 256 * (s / 256) = s by omega] at h
  calc Crc.tn 8 (s ^^^ c) = Crc.tn 8 ((2 ^ 8 * (s / 256)) ^^^ ((s % 256) ^^^ c)) := by
        congr 1
        conv => lhs; rw [h]
        rw [Nat.xor_assoc]
    _ = _ := by rw [Crc.tn_xor, Crc.tn_shift]
theorem on_loop (l : List Int) (hl : BI l) (hn : l.length ≤ 9223372036854775800) (d : Nat) : ∀ (i s : Nat), i + d = l.length → s < 4294967296 →
    Ev (fun k => crc_On.l0 k (s : Int) l (i : Int)) ((4294967295 ^^^ Crc.run s ((nat l).drop i) : Nat) : Int) := by
  induction d with
  | zero =>
    intro i s hi hs
    refine Ev.step (f := fun _ => some ((4294967295 ^^^ Crc.run s ((nat l).drop i) : Nat) : Int)) (fun k => ?_) (Ev.now _)
    simp only [crc_On.l0]
    rw [if_neg (by omega), u32_xor _ _ (by omega) (by omega) (by omega) (by omega), List.drop_eq_nil_of_le (by simp [nat]; omega)]
    simp [Crc.run]
  | succ d ih =>
    intro i s hi hs
    have hlt : i < l.length := by omega
    obtain ⟨h1, h2⟩ := rd_nat hl i hlt
    have hlt' : i < (nat l).length := by simpa [nat] using hlt
    generalize hc : (nat l)[i]'hlt' = c at h1 h2
    have hx : Go.bits .xor .u8 ((s : Int) % 256) (c : Int) = ((s % 256 ^^^ c : Nat) : Int) := by
      rw [show (s : Int) % 256 = ((s % 256 : Nat) : Int) by omega]
      exact u8_xor_nat _ _ (by omega) (by omega)
    have hxl : s % 256 ^^^ c < 256 := Nat.xor_lt_two_pow (n := 8) (by omega) (by omega)
    have htn : Crc.tn 8 (s % 256 ^^^ c) < 4294967296 := Crc.tn_lt _ _ (by omega)
    have hy : Go.bits .xor .u32 ((s : Int) / 256) ((Crc.tn 8 (s % 256 ^^^ c) : Nat) : Int) = ((Crc.tk s c : Nat) : Int) := by
      rw [show (s : Int) / 256 = ((s / 256 : Nat) : Int) by omega, tk_parts s c h2]
      exact u32_xor_nat _ _ (by omega) (by omega)
    refine Ev.step (f := fun k => (crc_roll.f k ((s % 256 ^^^ c : Nat) : Int)).bind fun t => crc_On.l0 k (Go.bits .xor .u32 ((s : Int) / 256) t) l ((i + 1 : Nat) : Int)) (fun k => ?_) ?_
    · simp only [crc_On.l0]
      rw [if_pos (by omega), if_pos (by omega), h1, hx, w64 (by omega) (by omega)]; rfl
    refine Ev.bind (f := fun k t => crc_On.l0 k (Go.bits .xor .u32 ((s : Int) / 256) t) l ((i + 1 : Nat) : Int)) (roll_ev _ hxl) ?_
    simp only [hy]
    have := ih (i + 1) (Crc.tk s c) (by omega) (Crc.tk_lt s c hs h2)
    rw [List.drop_eq_getElem_cons hlt', hc]
    exact this
def onI (a : Int) (l : List Int) : Int := ((Crc.on a.toNat (nat l) : Nat) : Int)
theorem onI_range (a : Int) (l : List Int) (h0 : 0 ≤ a) (h1 : a < 4294967296) (hl : BI l) : 0 ≤ onI a l ∧ onI a l < 4294967296 := by
  have := Crc.on_lt a.toNat (nat l) (by omega) (nat_B hl)
  unfold onI; omega
theorem on_ev (a : Int) (l : List Int) (h0 : 0 ≤ a) (h1 : a < 4294967296) (hl : BI l) (hn : l.length ≤ 9223372036854775800) : Ev (fun k => crc_On.f k a l) (onI a l) := by
  obtain ⟨s, rfl⟩ := Int.eq_ofNat_of_zero_le h0
  unfold crc_On.f onI Crc.on
  have := on_loop l hl hn l.length 0 (4294967295 ^^^ s) (by omega) (Crc.not_lt s (by omega))
  rw [u32_xor _ _ (by omega) (by omega) (by omega) (by omega)]
  simpa using this
theorem of_ev (l : List Int) (hl : BI l) (hn : l.length ≤ 9223372036854775800) : Ev (fun k => crc_Of.f k l) (onI 0 l) := by
  unfold crc_Of.f
  exact Ev.bind (f := fun _ t => some t) (on_ev 0 l (by omega) (by omega) hl hn) (Ev.now _)
theorem onI_append (a : Int) (x y : List Int) (h0 : 0 ≤ a) (h1 : a < 4294967296) (hx : BI x) : onI (onI a x) y = onI a (x ++ y) := by
  unfold onI
  rw [nat_append, Crc.on_append, Int.toNat_natCast]
theorem rd_row (l : List (List Int)) (i : Nat) (h : i < l.length) : rd_L2 l (i : Int) = l[i] := by
  unfold rd_L2
  rw [Int.toNat_natCast, List.getD_eq_getElem?_getD, List.getElem?_eq_getElem h, Option.getD_some]
theorem flat_succ (l : List (List Int)) (i : Nat) (h : i < l.length) : (l.take (i + 1)).flatten = (l.take i).flatten ++ l[i] := by
  rw [List.take_succ_eq_append_getElem h, List.flatten_append]
  simp
theorem flat_le (l : List (List Int)) (i : Nat) : (l.take i).flatten.length ≤ l.flatten.length := by
  have : l.flatten = (l.take i).flatten ++ (l.drop i).flatten := by rw [← List.flatten_append, List.take_append_drop]
  rw [this, List.length_append]; omega
theorem row_le (l : List (List Int)) (i : Nat) (h : i < l.length) : l[i].length ≤ l.flatten.length := by
  have h1 := flat_le l (i + 1)
  rw [flat_succ l i h, List.length_append] at h1
  omega
theorem concat_l1 (l : List (List Int)) (hn : l.length ≤ 1048576) (hs : l.flatten.length ≤ 1048576) (d : Nat) : ∀ i : Nat, i + d = l.length → Ev (fun k => slices_Concat_byte_byte.l1 k (l.take i).flatten l (l.length : Int) (i : Int)) l.flatten := by
  induction d with
  | zero =>
    intro i hi
    refine Ev.step (f := fun k => _) (fun k => by simp only [slices_Concat_byte_byte.l1]; rfl) ?_
    refine ev_neg (by omega) ?_
    rw [List.take_of_length_le (by omega)]
    exact Ev.now _
  | succ d ih =>
    intro i hi
    refine Ev.step (f := fun k => _) (fun k => by simp only [slices_Concat_byte_byte.l1]; rfl) ?_
    have h1 := flat_le l i
    have h2 := row_le l i (by omega)
    rw [rd_row l i (by omega)]
    refine ev_pos (by omega) (ev_pos (by omega) (ev_pos (by omega) (ev_pos (by omega) ?_)))
    rw [← flat_succ l i (by omega), w64 (by omega) (by omega)]
    exact ih (i + 1) (by omega)
theorem concat_l0 (l : List (List Int)) (hn : l.length ≤ 1048576) (hs : l.flatten.length ≤ 1048576) (d : Nat) : ∀ i : Nat, i + d = l.length → Ev (fun k => slices_Concat_byte_byte.l0 k l ((l.take i).flatten.length : Int) l (l.length : Int) (i : Int)) l.flatten := by
  induction d with
  | zero =>
    intro i hi
    refine Ev.step (f := fun k => _) (fun k => by simp only [slices_Concat_byte_byte.l0]; rfl) ?_
    have h1 := flat_le l i
    refine ev_neg (by omega) ?_
    refine ev_some (f := fun k t => _) (a := ([] : List Int)) (by unfold slices_Grow_byte_byte.f; rw [if_pos (by omega)]) ?_
    exact concat_l1 l hn hs l.length 0 (by omega)
  | succ d ih =>
    intro i hi
    refine Ev.step (f := fun k => _) (fun k => by simp only [slices_Concat_byte_byte.l0]; rfl) ?_
    have h1 := flat_le l i
    have h2 := row_le l i (by omega)
    rw [rd_row l i (by omega), w64 (x := (i : Int) + 1) (by omega) (by omega), w64 (by omega) (by omega)]
    refine ev_pos (by omega) (ev_pos (by omega) (ev_pos (by omega) (ev_neg (by omega) ?_)))
    have := ih (i + 1) (by omega)
    rw [flat_succ l i (by omega), List.length_append] at this
    exact_mod_cast this
theorem concat_ev (l : List (List Int)) (hn : l.length ≤ 1048576) (hs : l.flatten.length ≤ 1048576) : Ev (fun k => slices_Concat_byte_byte.f k l) l.flatten := concat_l0 l hn hs l.length 0 (by omega)
end Go.Proofs.Ytkeekganabafbaa.Pure
end
section
namespace Go.Proofs.Ytkeekganabafbaa.Pure
set_option linter.unusedVariables false
set_option linter.unusedSimpArgs false
open Go.RowKit Go.Proofs.Ytkeekganabafbaa.X Go.Proofs.YtkeekganabafbaaW.PrintWords Go.Proofs.YtkeekganabafbaaW.PrintLast Go.Proofs.YtkeekganabafbaaW.PrintMore
def secB (s : S48) : List Int := s.f0 % 256 :: (enc s.f1.length ++ s.f1)
def secs : List S48 → List Int
  | [] => []
  | s :: r => secB s ++ secs r
theorem secs_append (a b : List S48) : secs (a ++ b) = secs a ++ secs b := by
  induction a with
  | nil => rfl
  | cons s r ih => simp only [List.cons_append, secs, ih, List.append_assoc]
def chk : Int → List S48 → Bool
  | _, [] => true
  | last, s :: r => if s.f0 ≤ last then false else if s.f0 > 255 then false else chk s.f0 r
theorem chk_cons (last : Int) (s : S48) (r : List S48) : chk last (s :: r) = true ↔ last < s.f0 ∧ s.f0 ≤ 255 ∧ chk s.f0 r = true := by
  rw [show chk last (s :: r) = (if s.f0 ≤ last then false else if s.f0 > 255 then false else chk s.f0 r) from rfl]
  by_cases h1 : s.f0 ≤ last
  · rw [if_pos h1]
    constructor
    · intro h; simp at h
    rintro ⟨h, _⟩; omega
  rw [if_neg h1]
  by_cases h2 : s.f0 > 255
  · rw [if_pos h2]
    constructor
    · intro h; simp at h
    rintro ⟨_, h, _⟩; omega
  rw [if_neg h2]
  constructor
  · intro h; exact ⟨by omega, by omega, h⟩
  rintro ⟨_, _, h⟩; exact h
def OKs (l : List S48) : Prop := ∀ s ∈ l, BI s.f1
def small (l : List S48) : Prop := ∀ s ∈ l, s.f1.length ≤ 262144
theorem chk_length (l : List S48) : ∀ last : Int, chk last l = true → (l.length : Int) ≤ 255 - last ∨ l = [] := by
  induction l with
  | nil => intro last _; exact .inr rfl
  | cons s r ih =>
    intro last h
    obtain ⟨h1, h2, h3⟩ := (chk_cons _ _ _).1 h
    left
    rcases ih s.f0 h3 with h4 | h4
    · simp only [List.length_cons]; omega
    subst h4; simp; omega
theorem secB_BI (s : S48) (h : BI s.f1) : BI (secB s) := BI_cons (Int.emod_nonneg _ (by omega)) (Int.emod_lt_of_pos _ (by omega)) (BI_append (enc_BI _ _ (Nat.le_refl _)) h)
theorem secs_BI (l : List S48) (h : OKs l) : BI (secs l) := by
  induction l with
  | nil => exact BI_nil
  | cons s r ih => exact BI_append (secB_BI s (h s List.mem_cons_self)) (ih (fun x hx => h x (List.mem_cons_of_mem _ hx)))
theorem secB_length (s : S48) (h : s.f1.length ≤ 9007199254740991) : (secB s).length ≤ s.f1.length + 9 ∧ s.f1.length + 2 ≤ (secB s).length := by
  have := enc_le8 s.f1.length h
  have := enc_pos s.f1.length
  simp only [secB, List.length_cons, List.length_append]
  omega
theorem secs_length (m : Nat) (hm : m ≤ 9007199254740991) (l : List S48) (h : ∀ s ∈ l, s.f1.length ≤ m) : (secs l).length ≤ l.length * (m + 9) := by
  induction l with
  | nil => simp [secs]
  | cons s r ih =>
    have h1 := secB_length s (Nat.le_trans (h s List.mem_cons_self) hm)
    have h2 := ih (fun x hx => h x (List.mem_cons_of_mem _ hx))
    have h3 := h s List.mem_cons_self
    simp only [secs, List.length_append, List.length_cons]
    rw [Nat.add_mul]
    omega
def parse : Nat → List Int → Int → Option (List S48)
  | 0, _, _ => none
  | _ + 1, [], _ => some []
  | d + 1, tag :: r, last => if (takeTextI r 262144).2.2 = 0 then (if tag ≤ last then none else ((parse d (takeTextI r 262144).2.1 tag).map fun l => (⟨tag, (takeTextI r 262144).1⟩ : S48) :: l)) else none
theorem takeTextI_ok (r : List Int) (hB : BI r) (h : (takeTextI r 262144).2.2 = 0) :
    r = enc (takeTextI r 262144).1.length ++ ((takeTextI r 262144).1 ++ (takeTextI r 262144).2.1) ∧ (takeTextI r 262144).1.length ≤ 262144 := by
  rcases tk_spec r with ⟨n, s, h1, hn, hs1, hs2, _⟩ | h1 | h1
  · rw [takeTextI_of r 262144 n s h1 (by decide)] at h ⊢
    by_cases c1 : (n : Int) > 262144
    · rw [if_pos c1] at h; cases h
    rw [if_neg c1] at h ⊢
    by_cases c2 : (n : Int) > ((r.drop s).length : Int)
    · rw [if_pos c2] at h; cases h
    rw [if_neg c2] at h ⊢
    have h3 := enc_tk r hB n s h1
    have h4 : ((r.drop s).take n).length = n := by rw [List.length_take]; omega
    dsimp only
    rw [h4, List.take_append_drop, h3, List.take_append_drop]
    exact ⟨rfl, by omega⟩
  · rw [takeTextI_bad r 262144 3 h1 (by decide) (by decide)] at h; cases h
  rw [takeTextI_bad r 262144 4 h1 (by decide) (by decide)] at h; cases h
theorem takeTextI_short (r : List Int) (h : (takeTextI r 262144).2.2 = 0) : (takeTextI r 262144).2.1.length < r.length := by
  rcases tk_spec r with ⟨n, s, h1, hn, hs1, hs2, _⟩ | h1 | h1
  · rw [takeTextI_of r 262144 n s h1 (by decide)] at h ⊢
    by_cases c1 : (n : Int) > 262144
    · rw [if_pos c1] at h; cases h
    rw [if_neg c1] at h ⊢
    by_cases c2 : (n : Int) > ((r.drop s).length : Int)
    · rw [if_pos c2] at h; cases h
    rw [if_neg c2] at h ⊢
    simp only [List.length_drop]
    omega
  · rw [takeTextI_bad r 262144 3 h1 (by decide) (by decide)] at h; cases h
  rw [takeTextI_bad r 262144 4 h1 (by decide) (by decide)] at h; cases h
theorem takeTextI_BI (r : List Int) (hB : BI r) (h : (takeTextI r 262144).2.2 = 0) : BI (takeTextI r 262144).1 ∧ BI (takeTextI r 262144).2.1 := by
  have e := (takeTextI_ok r hB h).1
  constructor
  · intro x hx; apply hB; rw [e]; simp [hx]
  intro x hx; apply hB; rw [e]; simp [hx]
theorem parse_secs (l : List S48) : ∀ (last : Int) (d : Nat), 0 ≤ last → chk last l = true → OKs l → small l → l.length < d → parse d (secs l) last = some l := by
  induction l with
  | nil =>
    intro last d h0 hc ho hs hd
    obtain ⟨d, rfl⟩ : ∃ m, d = m + 1 := ⟨d - 1, by omega⟩
    rfl
  | cons s r ih =>
    intro last d h0 hc ho hs hd
    obtain ⟨d, rfl⟩ : ∃ m, d = m + 1 := ⟨d - 1, by omega⟩
    obtain ⟨h1, h2, h3⟩ := (chk_cons _ _ _).1 hc
    have h4 := hs s List.mem_cons_self
    have e : takeTextI (enc s.f1.length ++ s.f1 ++ secs r) 262144 = (s.f1, secs r, 0) := by rw [List.append_assoc]; exact takeTextI_enc s.f1 (secs r) 262144 (by omega) (by omega)
    have e2 : s.f0 % 256 = s.f0 := Int.emod_eq_of_lt (by omega) (by omega)
    show parse (d + 1) (s.f0 % 256 :: (enc s.f1.length ++ s.f1 ++ secs r)) last = _
    unfold parse
    rw [e2, e]
    dsimp only
    rw [if_pos rfl, if_neg (by omega), ih s.f0 d (by omega) h3 (fun x hx => ho x (List.mem_cons_of_mem _ hx)) (fun x hx => hs x (List.mem_cons_of_mem _ hx)) (by simp only [List.length_cons] at hd; omega)]
    rfl
theorem parse_ok (d : Nat) : ∀ (b : List Int) (last : Int) (l : List S48), BI b → parse d b last = some l → secs l = b ∧ (0 ≤ last → chk last l = true) ∧ OKs l ∧ small l := by
  induction d with
  | zero => intro b last l hB h; cases h
  | succ d ih =>
    intro b last l hB h
    cases b with
    | nil =>
      have h' : some ([] : List S48) = some l := h
      cases h'
      exact ⟨rfl, fun _ => rfl, (fun _ hx => (by cases hx)), (fun _ hx => (by cases hx))⟩
    | cons tag r =>
      unfold parse at h
      have hr : BI r := fun x hx => hB x (List.mem_cons_of_mem _ hx)
      by_cases c1 : (takeTextI r 262144).2.2 = 0
      · rw [if_pos c1] at h
        by_cases c2 : tag ≤ last
        · rw [if_pos c2] at h; cases h
        rw [if_neg c2] at h
        obtain ⟨l', hl', rfl⟩ := Option.map_eq_some_iff.1 h
        obtain ⟨e1, e2⟩ := takeTextI_ok r hr c1
        obtain ⟨b1, b2⟩ := takeTextI_BI r hr c1
        obtain ⟨i1, i2, i3, i4⟩ := ih _ _ _ b2 hl'
        obtain ⟨t0, t1⟩ := hB tag List.mem_cons_self
        refine ⟨?_, fun h0 => ?_, ?_, ?_⟩
        · show (tag % 256 :: (enc (takeTextI r 262144).1.length ++ (takeTextI r 262144).1)) ++ secs l' = _
          rw [i1, Int.emod_eq_of_lt t0 t1, List.cons_append, List.append_assoc, ← e1]
        · exact (chk_cons _ _ _).2 ⟨by show last < tag; omega, by show tag ≤ 255; omega, i2 t0⟩
        · intro x hx
          rcases List.mem_cons.1 hx with rfl | hx
          · exact b1
          exact i3 x hx
        intro x hx
        rcases List.mem_cons.1 hx with rfl | hx
        · exact e2
        exact i4 x hx
      rw [if_neg c1] at h; cases h
def fourI (a : Int) : List Int := [a % 256, (a / 256) % 256, (a / 65536) % 256, (a / 16777216) % 256]
theorem four_some (a : Int) : pack_four.f a = some (fourI a) := rfl
theorem fourI_BI (a : Int) : BI (fourI a) := by
  unfold fourI
  refine BI_cons ?_ ?_ (BI_cons ?_ ?_ (BI_cons ?_ ?_ (BI_cons ?_ ?_ BI_nil))) <;> omega
theorem fourI_length (a : Int) : (fourI a).length = 4 := rfl
theorem nat_fourI (a : Int) (h0 : 0 ≤ a) : nat (fourI a) = Crc.four a.toNat := by
  obtain ⟨n, rfl⟩ := Int.eq_ofNat_of_zero_le h0
  simp only [fourI, nat, Crc.four, List.map_cons, List.map_nil, Int.toNat_natCast]
  congr 1
theorem rd_row_T (l : List S48) (i : Nat) (h : i < l.length) : rd_T48 l (i : Int) = l[i] := by
  unfold rd_T48
  rw [Int.toNat_natCast, List.getD_eq_getElem?_getD, List.getElem?_eq_getElem h, Option.getD_some]
theorem drop_cons (l : List S48) (i : Nat) (h : i < l.length) : l.drop i = l[i] :: l.drop (i + 1) := (List.drop_eq_getElem_cons h)
theorem check_loop (l : List S48) (hn : l.length ≤ 4398046511104) (d : Nat) : ∀ (i : Nat) (last : Int), i + d = l.length →
    Ev (fun k => pack_check.l0 k last l (l.length : Int) (i : Int)) (if chk last (l.drop i) = true then 0 else 2) := by
  induction d with
  | zero =>
    intro i last hi
    refine Ev.step (f := fun k => _) (fun k => by simp only [pack_check.l0]; rfl) ?_
    refine ev_neg (by omega) ?_
    rw [List.drop_eq_nil_of_le (by omega)]
    exact Ev.now _
  | succ d ih =>
    intro i last hi
    have hlt : i < l.length := by omega
    refine Ev.step (f := fun k => _) (fun k => by simp only [pack_check.l0]; rfl) ?_
    refine ev_pos (by omega) (ev_pos (by omega) (ev_pos (by omega) ?_))
    rw [rd_row_T l i hlt, drop_cons l i hlt]
    rw [show chk last (l[i] :: l.drop (i + 1)) = (if l[i].f0 ≤ last then false else if l[i].f0 > 255 then false else chk l[i].f0 (l.drop (i + 1))) from rfl]
    by_cases h1 : l[i].f0 ≤ last
    · rw [if_pos h1]
      exact ev_pos h1 (Ev.now _)
    refine ev_neg h1 ?_
    rw [if_neg h1]
    by_cases h2 : l[i].f0 > 255
    · rw [if_pos h2]
      exact ev_pos h2 (Ev.now _)
    refine ev_neg h2 ?_
    rw [if_neg h2, w64 (by omega) (by omega)]
    exact ih (i + 1) _ (by omega)
def okay (kind : Int) (l : List S48) : Bool := decide (0 ≤ kind ∧ kind ≤ 255) && chk 0 l
theorem check_ev (kind : Int) (l : List S48) (hn : l.length ≤ 4398046511104) : Ev (fun k => pack_check.f k kind l) (if okay kind l = true then 0 else 2) := by
  unfold pack_check.f okay
  by_cases h0 : kind < 0
  · refine ev_pos h0 ?_
    refine Ev.step (f := fun k => _) (fun k => by simp only [pack_check.j0]; rfl) ?_
    rw [decide_eq_false (by omega), Bool.false_and, if_neg (by decide)]
    exact Ev.now _
  refine ev_neg h0 ?_
  refine Ev.step (f := fun k => _) (fun k => by simp only [pack_check.j0]; rfl) ?_
  by_cases h1 : kind > 255
  · refine ev_pos (decide_eq_true h1) ?_
    rw [decide_eq_false (by omega), Bool.false_and, if_neg (by decide)]
    exact Ev.now _
  refine ev_neg (by simp [h1]) ?_
  rw [decide_eq_true (show 0 ≤ kind ∧ kind ≤ 255 by omega), Bool.true_and]
  have := check_loop l hn l.length 0 0 (by omega)
  rw [List.drop_zero] at this
  exact this
def packB (kind : Int) (l : List S48) : List Int := [73, 80] ++ (fourI ((10 + (1 + (secs l).length) : Nat) : Int) ++ (kind % 256 :: secs l))
def sealI (b : List Int) : List Int := b ++ fourI (onI 0 b)
def packI (kind : Int) (l : List S48) : List Int × Int :=
  if okay kind l = true then (if ∀ s ∈ l, s.f1.length ≤ 262144 then (if 11 + (secs l).length ≤ 262144 then (sealI (packB kind l), 0) else ([], 5)) else ([], 5)) else ([], 2)
instance (l : List S48) : Decidable (∀ s ∈ l, s.f1.length ≤ 262144) := List.decidableBAll _ _
theorem packB_BI (kind : Int) (l : List S48) (h : OKs l) : BI (packB kind l) :=
  BI_append (BI_cons (by omega) (by omega) (BI_cons (by omega) (by omega) BI_nil)) (BI_append (fourI_BI _) (BI_cons (by omega) (by omega) (secs_BI l h)))
theorem packB_length (kind : Int) (l : List S48) : (packB kind l).length = 7 + (secs l).length := by
  simp only [packB, List.length_append, List.length_cons, fourI_length, List.length_nil]; omega
theorem sealI_length (b : List Int) : (sealI b).length = b.length + 4 := by simp [sealI, fourI_length]
theorem onI0_range (b : List Int) (hb : BI b) : 0 ≤ onI 0 b ∧ onI 0 b < 4294967296 := onI_range 0 b (by omega) (by omega) hb
theorem pack_tail (kind : Int) (l : List S48) (hO : OKs l) (hsm : (secs l).length ≤ 1000000000) :
    Ev (fun k => if (wrap64 ((wrap64 (6 + ((kind % 256 :: secs l).length : Int))) + 4)) > 262144 then (some (([] : List Int), (5 : Int))) else ((pack_four.f ((wrap64 ((wrap64 (6 + ((kind % 256 :: secs l).length : Int))) + 4)) % 4294967296)).bind fun t178 => ((slices_Concat_byte_byte.f k (([(([73, 80] : List Int)), t178, (kind % 256 :: secs l)] : List (List Int)))).bind fun t184 => ((crc_Of.f k t184).bind fun t187 => ((pack_four.f t187).bind fun t188 => (if 0 < t184.length then (if 0 < t188.length then (if t184.length + t188.length < 140737488355328 then (some ((t184 ++ t188), 0)) else (none)) else (none)) else (none)))))))
      (if 11 + (secs l).length ≤ 262144 then (sealI (packB kind l), 0) else ([], 5)) := by
  have e1 : wrap64 ((wrap64 (6 + ((kind % 256 :: secs l).length : Int))) + 4) = ((11 + (secs l).length : Nat) : Int) := by
    rw [List.length_cons, w64 (x := 6 + (((secs l).length + 1 : Nat) : Int)) (by omega) (by omega), w64 (by omega) (by omega)]; omega
  rw [e1]
  by_cases h : 11 + (secs l).length ≤ 262144
  · rw [if_pos h]
    refine ev_neg (by omega) ?_
    refine ev_some (f := fun k t => _) (four_some _) ?_
    rw [Int.emod_eq_of_lt (by omega) (by omega)]
    have e2 : (11 + (secs l).length : Nat) = 10 + (1 + (secs l).length) := by omega
    have hc := concat_ev [([73, 80] : List Int), fourI ((11 + (secs l).length : Nat) : Int), kind % 256 :: secs l] (by simp) (by simp [fourI_length]; omega)
    rw [show [([73, 80] : List Int), fourI ((11 + (secs l).length : Nat) : Int), kind % 256 :: secs l].flatten = packB kind l by rw [packB, ← e2]; simp] at hc
    refine Ev.bind (f := fun k t => _) hc ?_
    have hl := packB_length kind l
    have hb := packB_BI kind l hO
    refine Ev.bind (f := fun k t => _) (of_ev (packB kind l) hb (by omega)) ?_
    refine ev_some (f := fun k t => _) (four_some _) ?_
    refine ev_pos (by omega) (ev_pos (by rw [fourI_length]; omega) (ev_pos (by rw [fourI_length]; omega) ?_))
    exact Ev.now _
  rw [if_neg h]
  exact ev_pos (by omega) (Ev.now _)
theorem secs_take (l : List S48) (i : Nat) (h : i < l.length) : secs (l.take (i + 1)) = secs (l.take i) ++ secB l[i] := by
  rw [List.take_succ_eq_append_getElem h, secs_append]
  simp [secs]
theorem secs_take_le (l : List S48) (i : Nat) (h : ∀ s ∈ l.take i, s.f1.length ≤ 262144) : (secs (l.take i)).length ≤ i * 262153 := by
  have := secs_length 262144 (by omega) (l.take i) h
  have h2 : (l.take i).length ≤ i := List.length_take_le _ _
  have h3 : (l.take i).length * (262144 + 9) ≤ i * 262153 := Nat.mul_le_mul h2 (by omega)
  exact Nat.le_trans this h3
theorem pack_loop (kind : Int) (l : List S48) (hn : l.length ≤ 255) (hO : OKs l) (d : Nat) : ∀ (i : Nat), i + d = l.length → (∀ s ∈ l.take i, s.f1.length ≤ 262144) → (∀ s ∈ l, s.f1.length ≤ 140737488355300) →
    Ev (fun k => pack_Pack.l0 k (kind % 256 :: secs (l.take i)) l (l.length : Int) (i : Int)) (if ∀ s ∈ l, s.f1.length ≤ 262144 then (if 11 + (secs l).length ≤ 262144 then (sealI (packB kind l), 0) else ([], 5)) else ([], 5)) := by
  induction d with
  | zero =>
    intro i hi hs hbig
    have hil : i = l.length := by omega
    subst hil
    rw [List.take_length] at hs ⊢
    refine Ev.step (f := fun k => _) (fun k => by simp only [pack_Pack.l0]; rfl) ?_
    refine ev_neg (by omega) ?_
    rw [if_pos hs]
    have := secs_take_le l l.length (by rw [List.take_length]; exact hs)
    rw [List.take_length] at this
    exact pack_tail kind l hO (by omega)
  | succ d ih =>
    intro i hi hs hbig
    have hlt : i < l.length := by omega
    have h0 := secs_take_le l i hs
    refine Ev.step (f := fun k => _) (fun k => by simp only [pack_Pack.l0]; rfl) ?_
    refine ev_pos (by omega) (ev_pos (by omega) (ev_pos (by omega) ?_))
    rw [rd_row_T l i hlt]
    have hm : l[i] ∈ l := List.getElem_mem hlt
    refine Ev.bind (f := fun k t => _) (text_ev l[i].f1 262144 (hbig _ hm)) ?_
    by_cases h1 : l[i].f1.length ≤ 262144
    · rw [textI_ok l[i].f1 262144 (by omega)]
      refine ev_pos rfl (ev_pos (by rw [List.length_cons]; omega) ?_)
      refine ev_some (f := fun k t => _) rfl ?_
      have h3 := enc_le8 l[i].f1.length (by omega)
      refine ev_pos (by simp only [List.length_append, List.length_cons, List.length_nil]; omega) ?_
      have e : (kind % 256 :: secs (l.take i)) ++ [l[i].f0 % 256] ++ (enc l[i].f1.length ++ l[i].f1) = kind % 256 :: secs (l.take (i + 1)) := by
        rw [secs_take l i hlt]; simp [secB]
      rw [e, w64 (by omega) (by omega)]
      refine ih (i + 1) (by omega) (fun s hsm => ?_) hbig
      rw [List.take_succ_eq_append_getElem hlt] at hsm
      rcases List.mem_append.1 hsm with h4 | h4
      · exact hs s h4
      rw [List.mem_singleton.1 h4]; exact h1
    rw [show textI l[i].f1 262144 = ([], 5) by unfold textI; rw [if_neg (by omega), if_pos (by omega)]]
    rw [if_neg (fun h => h1 (h _ hm))]
    exact ev_neg (by decide) (Ev.now _)
theorem okay_length (kind : Int) (l : List S48) (h : okay kind l = true) : l.length ≤ 255 ∧ 0 ≤ kind ∧ kind ≤ 255 ∧ chk 0 l = true := by
  unfold okay at h
  obtain ⟨h1, h2⟩ := Bool.and_eq_true_iff.1 h
  have h3 := of_decide_eq_true h1
  rcases chk_length l 0 h2 with h4 | h4
  · exact ⟨by omega, h3.1, h3.2, h2⟩
  subst h4; exact ⟨by simp, h3.1, h3.2, h2⟩
theorem pack_ev (kind : Int) (l : List S48) (hn : l.length ≤ 4398046511104) (hO : OKs l) (hbig : ∀ s ∈ l, s.f1.length ≤ 140737488355300) : Ev (fun k => pack_Pack.f k kind l) (packI kind l) := by
  unfold pack_Pack.f packI
  refine Ev.bind (f := fun k t => _) (check_ev kind l hn) ?_
  by_cases h : okay kind l = true
  · rw [if_pos h, if_pos h]
    refine ev_pos rfl ?_
    have := pack_loop kind l (okay_length kind l h).1 hO l.length 0 (by omega) (fun _ hx => by simp at hx) hbig
    simpa [secs] using this
  rw [if_neg h, if_neg h]
  exact ev_neg (by decide) (Ev.now _)
theorem eqs_loop (a b : List Int) (hab : a.length = b.length) (hn : a.length ≤ 9223372036854775800) (d : Nat) : ∀ (i : Nat), i + d = a.length →
    Ev (fun k => slices_Equal_byte_byte.l0 k a b (a.length : Int) (i : Int)) (decide (a.drop i = b.drop i)) := by
  induction d with
  | zero =>
    intro i hi
    refine Ev.step (f := fun _ => some (decide (a.drop i = b.drop i))) (fun k => ?_) (Ev.now _)
    simp only [slices_Equal_byte_byte.l0]
    rw [if_neg (by omega), List.drop_eq_nil_of_le (by omega), List.drop_eq_nil_of_le (by omega)]
    simp
  | succ d ih =>
    intro i hi
    have ha : i < a.length := by omega
    have hb : i < b.length := by omega
    have e : ∀ k, slices_Equal_byte_byte.l0 (k + 1) a b (a.length : Int) (i : Int) = if a[i] = b[i] then slices_Equal_byte_byte.l0 k a b (a.length : Int) ((i + 1 : Nat) : Int) else some false := fun k => by
      simp only [slices_Equal_byte_byte.l0]
      rw [if_pos (by omega), if_pos (by omega), if_pos (by omega), if_pos (by omega), rd_at a i ha, rd_at b i hb, w64 (by omega) (by omega)]; rfl
    refine Ev.step e ?_
    rw [List.drop_eq_getElem_cons ha, List.drop_eq_getElem_cons hb]
    by_cases h : a[i] = b[i]
    · simp only [if_pos h, List.cons.injEq, h, true_and]
      exact ih (i + 1) (by omega)
    simp only [if_neg h, List.cons.injEq, h, false_and]
    exact Ev.now _
theorem eqs_ev (a b : List Int) (hn : a.length ≤ 9223372036854775800) : Ev (fun k => slices_Equal_byte_byte.f k a b) (decide (a = b)) := by
  unfold slices_Equal_byte_byte.f
  by_cases h : a.length = b.length
  · simp only [if_pos (show (a.length : Int) = (b.length : Int) by omega)]
    have := eqs_loop a b h hn a.length 0 (by omega)
    simpa using this
  simp only [if_neg (show ¬ (a.length : Int) = (b.length : Int) by omega)]
  rw [show decide (a = b) = false from decide_eq_false (fun e => h (by rw [e]))]
  exact Ev.now _
theorem or_lay (acc x k : Nat) (hk : k ≤ 40) (ha : acc < 2 ^ k) (hx : x < 256) : Go.bits .or .i64 (acc : Int) ((x : Int) * (2 ^ k : Nat)) = ((acc + 2 ^ k * x : Nat) : Int) := by
  have hw : ∀ n : Int, 0 ≤ n → n < 2 ^ 63 → IntKind.i64.wrap n = n := fun n a b => by rw [IntKind.wrap_i64]; omega
  have h1 : 2 ^ k ≤ 2 ^ 40 := Nat.pow_le_pow_right (by omega) hk
  have h2 : 2 ^ k * x < 2 ^ 40 * 256 := Nat.lt_of_le_of_lt (Nat.mul_le_mul_right x h1) (Nat.mul_lt_mul_of_pos_left hx (by decide))
  have h40 : (2 : Nat) ^ 40 = 1099511627776 := by decide
  rw [h40] at h1 h2
  have hb := (bits_nat .i64 63 (by decide) hw acc (2 ^ k * x) (by omega) (by omega)).2
  rw [show (x : Int) * (2 ^ k : Nat) = ((2 ^ k * x : Nat) : Int) by rw [Nat.mul_comm]; simp, hb, Nat.or_comm, ← Nat.two_pow_add_eq_or_of_lt ha x, Nat.add_comm]
theorem or4 (a b c d : Int) (ha : 0 ≤ a ∧ a < 256) (hb : 0 ≤ b ∧ b < 256) (hc : 0 ≤ c ∧ c < 256) (hd : 0 ≤ d ∧ d < 256) :
    Go.bits .or .i64 (Go.bits .or .i64 (Go.bits .or .i64 (wrap64 a) (wrap64 ((wrap64 b) * 256))) (wrap64 ((wrap64 c) * 65536))) (wrap64 ((wrap64 d) * 16777216)) = a + 256 * b + 65536 * c + 16777216 * d := by
  rw [w64 (x := a) (by omega) (by omega), w64 (x := b) (by omega) (by omega), w64 (x := c) (by omega) (by omega), w64 (x := d) (by omega) (by omega), w64 (x := b * 256) (by omega) (by omega), w64 (x := c * 65536) (by omega) (by omega), w64 (x := d * 16777216) (by omega) (by omega)]
  obtain ⟨a, rfl⟩ := Int.eq_ofNat_of_zero_le ha.1
  obtain ⟨b, rfl⟩ := Int.eq_ofNat_of_zero_le hb.1
  obtain ⟨c, rfl⟩ := Int.eq_ofNat_of_zero_le hc.1
  obtain ⟨d, rfl⟩ := Int.eq_ofNat_of_zero_le hd.1
  have e1 := or_lay a b 8 (by omega) (by omega) (by omega)
  have e2 := or_lay (a + 2 ^ 8 * b) c 16 (by omega) (by omega) (by omega)
  have e3 := or_lay (a + 2 ^ 8 * b + 2 ^ 16 * c) d 24 (by omega) (by omega) (by omega)
  rw [show ((256 : Int)) = ((2 ^ 8 : Nat) : Int) by decide, e1, show ((65536 : Int)) = ((2 ^ 16 : Nat) : Int) by decide, e2, show ((16777216 : Int)) = ((2 ^ 24 : Nat) : Int) by decide, e3]
  omega
def le4 (b : List Int) : Int := rd b 2 + 256 * rd b 3 + 65536 * rd b 4 + 16777216 * rd b 5
def sizeI (b : List Int) : Int × Int :=
  if (0 < b.length ∧ rd b 0 ≠ 73) ∨ (1 < b.length ∧ rd b 1 ≠ 80) then (0, 4) else if b.length < 6 then (0, 3) else if le4 b > 262144 then (0, 5) else if le4 b < 11 then (0, 4) else (le4 b, 0)
theorem rd_BI (b : List Int) (hB : BI b) (i : Nat) (hi : i < b.length) : 0 ≤ rd b (i : Int) ∧ rd b (i : Int) < 256 := by
  rw [rd_at b i hi]; exact hB _ (List.getElem_mem hi)
theorem size_rest (b : List Int) (hB : BI b) (hn : b.length ≤ 9223372036854775800) (x8 x9 : Int) (h : ¬ x9 < x8) :
    Ev (fun k => pack_Size.l0 k b x8 x9) (if b.length < 6 then (0, 3) else if le4 b > 262144 then (0, 5) else if le4 b < 11 then (0, 4) else (le4 b, 0)) := by
  refine Ev.step (f := fun k => _) (fun k => by simp only [pack_Size.l0]; rfl) ?_
  refine ev_neg h ?_
  by_cases h6 : b.length < 6
  · rw [if_pos h6]; exact ev_pos (by omega) (Ev.now _)
  rw [if_neg h6]
  refine ev_neg (by omega) (ev_pos (by omega) (ev_pos (by omega) (ev_pos (by omega) (ev_pos (by omega) ?_))))
  rw [or4 (rd b 2) (rd b 3) (rd b 4) (rd b 5) (rd_BI b hB 2 (by omega)) (rd_BI b hB 3 (by omega)) (rd_BI b hB 4 (by omega)) (rd_BI b hB 5 (by omega))]
  rw [show rd b 2 + 256 * rd b 3 + 65536 * rd b 4 + 16777216 * rd b 5 = le4 b from rfl]
  by_cases h1 : le4 b > 262144
  · simp only [if_pos h1]; exact Ev.now _
  simp only [if_neg h1]
  by_cases h2 : le4 b < 11
  · simp only [if_pos h2]; exact Ev.now _
  simp only [if_neg h2]
  exact Ev.now _
theorem bt0 : bt (⟨#[73, 80]⟩ : ByteArray) 0 = 73 := by decide
theorem bt1 : bt (⟨#[73, 80]⟩ : ByteArray) 1 = 80 := by decide
theorem size_ev (b : List Int) (hB : BI b) (hn : b.length ≤ 9223372036854775800) : Ev (fun k => pack_Size.f k b) (sizeI b) := by
  unfold pack_Size.f sizeI
  have hm := mn_spec (b.length : Int) 2
  generalize hx : mn (b.length : Int) 2 = x8 at hm
  have hx2 : x8 = if b.length < 2 then (b.length : Int) else 2 := by rw [← hx]; unfold mn; split <;> split <;> omega
  by_cases h0 : b.length = 0
  · rw [if_neg (by omega)]
    exact size_rest b hB hn _ _ (by rw [hx2]; split <;> omega)
  refine Ev.step (f := fun k => _) (fun k => by simp only [pack_Size.l0]; rfl) ?_
  refine ev_pos (by rw [hx2]; split <;> omega) (ev_pos (by omega) (ev_pos (by omega) (ev_pos (by omega) ?_)))
  rw [bt0]
  by_cases c0 : rd b 0 = 73
  · refine ev_pos c0 ?_
    rw [show wrap64 (0 + 1) = 1 from (w64 (by omega) (by omega)).trans (by omega)]
    by_cases h1 : b.length = 1
    · rw [if_neg (by omega)]
      exact size_rest b hB hn _ _ (by rw [hx2]; split <;> omega)
    refine Ev.step (f := fun k => _) (fun k => by simp only [pack_Size.l0]; rfl) ?_
    refine ev_pos (by rw [hx2]; split <;> omega) (ev_pos (by omega) (ev_pos (by omega) (ev_pos (by omega) ?_)))
    rw [bt1]
    by_cases c1 : rd b 1 = 80
    · refine ev_pos c1 ?_
      rw [show wrap64 (1 + 1) = 2 from (w64 (by omega) (by omega)).trans (by omega), if_neg (by omega)]
      exact size_rest b hB hn _ _ (by rw [hx2]; split <;> omega)
    rw [if_pos (by omega)]
    exact ev_neg c1 (Ev.now _)
  rw [if_pos (by omega)]
  exact ev_neg c0 (Ev.now _)
theorem unpack_loop (x0 : List Int) (h6 : 6 < x0.length) (d : Nat) : ∀ (left : List Int) (last : Int) (acc : List S48), left.length < d → BI left → acc.length + left.length ≤ 300000 →
    Ev (fun k => pack_Unpack.l0 k x0 left last acc) (match parse d left last with | none => (0, [], 4) | some l => (wrap64 (rd x0 6), acc ++ l, 0)) := by
  induction d with
  | zero => intro left last acc h; omega
  | succ d ih =>
    intro left last acc hd hB hs
    refine Ev.step (f := fun k => _) (fun k => by simp only [pack_Unpack.l0]; rfl) ?_
    cases left with
    | nil =>
      refine ev_neg (by simp) (ev_pos (by omega) ?_)
      show Ev _ (wrap64 (rd x0 6), acc ++ [], 0)
      rw [List.append_nil]
      exact Ev.now _
    | cons tag r =>
      have hr : BI r := fun x hx => hB x (List.mem_cons_of_mem _ hx)
      obtain ⟨t0, t1⟩ := hB tag List.mem_cons_self
      simp only [List.length_cons] at hd hs
      refine ev_pos (by simp) ?_
      rw [show (tag :: r).drop 1 = r from rfl, show rd (tag :: r) 0 = tag from rfl, w64 (by omega) (by omega)]
      refine Ev.bind (f := fun k t => _) (takeText_ev r 262144 hr (by omega)) ?_
      unfold parse
      by_cases c1 : (takeTextI r 262144).2.2 = 0
      · rw [if_pos c1]
        refine ev_pos c1 ?_
        by_cases c2 : tag ≤ last
        · rw [if_pos c2]
          exact ev_pos c2 (Ev.now _)
        rw [if_neg c2]
        refine ev_neg c2 (ev_pos (by omega) ?_)
        have hsh := takeTextI_short r c1
        refine ev_eq ?_ (ih (takeTextI r 262144).2.1 tag _ (by omega) (takeTextI_BI r hr c1).2 (by simp only [List.length_append, List.length_cons, List.length_nil]; omega))
        cases parse d (takeTextI r 262144).2.1 tag with
        | none => rfl
        | some l => simp
      rw [if_neg c1]
      exact ev_neg c1 (Ev.now _)
def unpackI (b : List Int) : Int × List S48 × Int :=
  if (sizeI b).2 = 0 then (if (b.length : Int) < (sizeI b).1 then (0, [], 3) else if (b.length : Int) > (sizeI b).1 then (0, [], 4) else
    if b.drop (b.length - 4) = fourI (onI 0 (b.take (b.length - 4))) then (match parse (b.length) ((b.take (b.length - 4)).drop 7) 0 with | none => (0, [], 4) | some l => (rd b 6, l, 0)) else (0, [], 30)) else (0, [], (sizeI b).2)
theorem sizeI_ok (b : List Int) (h : (sizeI b).2 = 0) : (sizeI b).1 = le4 b ∧ 11 ≤ le4 b ∧ le4 b ≤ 262144 ∧ 6 ≤ b.length ∧ rd b 0 = 73 ∧ rd b 1 = 80 := by
  unfold sizeI at h ⊢
  by_cases h1 : (0 < b.length ∧ rd b 0 ≠ 73) ∨ (1 < b.length ∧ rd b 1 ≠ 80)
  · rw [if_pos h1] at h; cases h
  rw [if_neg h1] at h ⊢
  by_cases h2 : b.length < 6
  · rw [if_pos h2] at h; cases h
  rw [if_neg h2] at h ⊢
  by_cases h3 : le4 b > 262144
  · rw [if_pos h3] at h; cases h
  rw [if_neg h3] at h ⊢
  by_cases h4 : le4 b < 11
  · rw [if_pos h4] at h; cases h
  rw [if_neg h4]
  exact ⟨rfl, by omega, by omega, by omega, by omega, by omega⟩
theorem unpack_ev (b : List Int) (hB : BI b) (hn : b.length ≤ 9223372036854775800) : Ev (fun k => pack_Unpack.f k b) (unpackI b) := by
  unfold pack_Unpack.f unpackI
  refine Ev.bind (f := fun k t => _) (size_ev b hB hn) ?_
  by_cases h0 : (sizeI b).2 = 0
  · rw [if_pos h0]
    refine ev_pos h0 ?_
    obtain ⟨e1, e2, e3, e4, e5, e6⟩ := sizeI_ok b h0
    by_cases h1 : (b.length : Int) < (sizeI b).1
    · rw [if_pos h1]; exact ev_pos h1 (Ev.now _)
    rw [if_neg h1]
    refine ev_neg h1 ?_
    by_cases h2 : (b.length : Int) > (sizeI b).1
    · rw [if_pos h2]; exact ev_pos h2 (Ev.now _)
    rw [if_neg h2]
    refine ev_neg h2 ?_
    have e7 : wrap64 ((sizeI b).1 - 4) = ((b.length - 4 : Nat) : Int) := by rw [w64 (by omega) (by omega)]; omega
    rw [e7]
    refine ev_pos (by omega) (ev_pos (by omega) ?_)
    rw [Int.toNat_natCast]
    have hb1 := BI_take hB (b.length - 4)
    have hl1 : (b.take (b.length - 4)).length = b.length - 4 := by rw [List.length_take]; omega
    refine Ev.bind (f := fun k t => _) (of_ev _ hb1 (by omega)) ?_
    refine ev_some (f := fun k t => _) (four_some _) ?_
    refine Ev.bind (f := fun k t => _) (eqs_ev _ _ (by rw [List.length_drop]; omega)) ?_
    by_cases h3 : b.drop (b.length - 4) = fourI (onI 0 (b.take (b.length - 4)))
    · rw [if_pos h3]
      refine ev_pos (decide_eq_true h3) (ev_pos (by omega) ?_)
      have := unpack_loop b (by omega) b.length ((b.take (b.length - 4)).drop 7) 0 [] (by rw [List.length_drop, hl1]; omega) (BI_drop hb1 7) (by rw [List.length_drop, hl1]; simp; omega)
      have h66 := rd_BI b hB 6 (by omega)
      rw [show ((6 : Nat) : Int) = 6 from rfl] at h66
      rw [w64 (x := rd b 6) (by omega) (by omega)] at this
      simpa using this
    rw [if_neg h3]
    exact ev_neg (by rw [decide_eq_false h3]; decide) (Ev.now _)
  rw [if_neg h0]
  exact ev_neg h0 (Ev.now _)
theorem rd_take (l : List Int) (i m : Nat) (h : i < m) : rd (l.take m) (i : Int) = rd l (i : Int) := by
  unfold rd
  rw [Int.toNat_natCast, List.getD_eq_getElem?_getD, List.getD_eq_getElem?_getD, List.getElem?_take, if_pos h]
theorem rd_left (l r : List Int) (i : Nat) (h : i < l.length) : rd (l ++ r) (i : Int) = rd l (i : Int) := by
  unfold rd
  rw [Int.toNat_natCast, List.getD_eq_getElem?_getD, List.getD_eq_getElem?_getD, List.getElem?_append_left h]
theorem sizeI_of (b : List Int) (h6 : 6 ≤ b.length) (h0 : rd b 0 = 73) (h1 : rd b 1 = 80) (h2 : 11 ≤ le4 b) (h3 : le4 b ≤ 262144) : sizeI b = (le4 b, 0) := by
  unfold sizeI
  rw [if_neg (by omega), if_neg (by omega), if_neg (by omega), if_neg (by omega)]
theorem le4_left (b r : List Int) (h : 6 ≤ b.length) : le4 (b ++ r) = le4 b := by
  unfold le4
  rw [show (2 : Int) = ((2 : Nat) : Int) from rfl, show (3 : Int) = ((3 : Nat) : Int) from rfl, show (4 : Int) = ((4 : Nat) : Int) from rfl, show (5 : Int) = ((5 : Nat) : Int) from rfl,
    rd_left b r 2 (by omega), rd_left b r 3 (by omega), rd_left b r 4 (by omega), rd_left b r 5 (by omega)]
def Whole (b : List Int) : Prop := sizeI b = ((b.length : Int), 0)
theorem whole_parts (b : List Int) (h : Whole b) : 11 ≤ b.length ∧ b.length ≤ 262144 ∧ le4 b = (b.length : Int) ∧ rd b 0 = 73 ∧ rd b 1 = 80 := by
  have h' : sizeI b = ((b.length : Int), 0) := h
  obtain ⟨e1, e2, e3, e4, e5, e6⟩ := sizeI_ok b (by rw [h'])
  rw [h'] at e1
  have e1' : (b.length : Int) = le4 b := e1
  exact ⟨by omega, by omega, by omega, e5, e6⟩
theorem packI_ok (kind : Int) (l : List S48) (b : List Int) (h : packI kind l = (b, 0)) : b = sealI (packB kind l) ∧ okay kind l = true ∧ small l ∧ 11 + (secs l).length ≤ 262144 := by
  unfold packI at h
  by_cases h1 : okay kind l = true
  · rw [if_pos h1] at h
    by_cases h2 : ∀ s ∈ l, s.f1.length ≤ 262144
    · rw [if_pos h2] at h
      by_cases h3 : 11 + (secs l).length ≤ 262144
      · rw [if_pos h3] at h
        exact ⟨(congrArg Prod.fst h).symm, h1, h2, h3⟩
      rw [if_neg h3] at h; cases h
    rw [if_neg h2] at h; cases h
  rw [if_neg h1] at h; cases h
theorem packI_of (kind : Int) (l : List S48) (h1 : okay kind l = true) (h2 : small l) (h3 : 11 + (secs l).length ≤ 262144) : packI kind l = (sealI (packB kind l), 0) := by
  unfold packI
  rw [if_pos h1, if_pos (show ∀ s ∈ l, s.f1.length ≤ 262144 from h2), if_pos h3]
theorem packB_spell (kind : Int) (l : List S48) : packB kind l = 73 :: 80 :: ((11 + (secs l).length : Nat) : Int) % 256 :: (((11 + (secs l).length : Nat) : Int) / 256) % 256 :: (((11 + (secs l).length : Nat) : Int) / 65536) % 256 :: (((11 + (secs l).length : Nat) : Int) / 16777216) % 256 :: (kind % 256) :: secs l := by
  unfold packB fourI
  rw [show 10 + (1 + (secs l).length) = 11 + (secs l).length by omega]
  rfl
theorem seal_whole (kind : Int) (l : List S48) (h3 : 11 + (secs l).length ≤ 262144) : Whole (sealI (packB kind l)) := by
  have hl : (sealI (packB kind l)).length = 11 + (secs l).length := by rw [sealI_length, packB_length]; omega
  have e : le4 (sealI (packB kind l)) = ((11 + (secs l).length : Nat) : Int) := by
    unfold sealI
    rw [le4_left _ _ (by rw [packB_length]; omega), packB_spell]
    show ((11 + (secs l).length : Nat) : Int) % 256 + 256 * ((((11 + (secs l).length : Nat) : Int) / 256) % 256) + 65536 * ((((11 + (secs l).length : Nat) : Int) / 65536) % 256) + 16777216 * ((((11 + (secs l).length : Nat) : Int) / 16777216) % 256) = _
    omega
  unfold Whole
  rw [sizeI_of _ (by omega) (by rw [sealI, packB_spell]; rfl) (by rw [sealI, packB_spell]; rfl) (by rw [e]; omega) (by rw [e]; omega), e, hl]
theorem take_seal (b : List Int) : (sealI b).take ((sealI b).length - 4) = b ∧ (sealI b).drop ((sealI b).length - 4) = fourI (onI 0 b) := by
  rw [sealI_length, show b.length + 4 - 4 = b.length by omega]
  exact ⟨by unfold sealI; rw [List.take_left], by unfold sealI; rw [List.drop_left]⟩
theorem unpack_seal (kind : Int) (l : List S48) (h1 : okay kind l = true) (h2 : small l) (h3 : 11 + (secs l).length ≤ 262144) (hO : OKs l) : unpackI (sealI (packB kind l)) = (kind, l, 0) := by
  have hw := seal_whole kind l h3
  obtain ⟨ho1, ho2, ho3, ho4⟩ := okay_length kind l h1
  have hl : (sealI (packB kind l)).length = 11 + (secs l).length := by rw [sealI_length, packB_length]; omega
  unfold unpackI
  rw [show sizeI (sealI (packB kind l)) = (((sealI (packB kind l)).length : Int), 0) from hw, if_pos rfl, if_neg (by omega), if_neg (by omega), (take_seal _).1, (take_seal _).2, if_pos rfl]
  have e : (packB kind l).drop 7 = secs l := by rw [packB_spell]; rfl
  have hlen : l.length ≤ (secs l).length := by
    clear hw ho1 ho4 h1 h3 hl e
    induction l with
    | nil => simp
    | cons s r ih =>
      have := ih (fun x hx => h2 x (List.mem_cons_of_mem _ hx)) (fun x hx => hO x (List.mem_cons_of_mem _ hx))
      simp only [secs, secB, List.length_append, List.length_cons]; omega
  rw [e, parse_secs l 0 _ (by omega) ho4 hO h2 (by omega)]
  have e6 : rd (sealI (packB kind l)) 6 = kind % 256 := by rw [sealI, packB_spell]; rfl
  rw [e6, Int.emod_eq_of_lt (by omega) (by omega)]
theorem unpack_packI (kind : Int) (l : List S48) (b : List Int) (h : packI kind l = (b, 0)) (hO : OKs l) : unpackI b = (kind, l, 0) ∧ Whole b := by
  obtain ⟨rfl, h1, h2, h3⟩ := packI_ok kind l b h
  exact ⟨unpack_seal kind l h1 h2 h3 hO, seal_whole kind l h3⟩
theorem unpackI_cases (b : List Int) : (unpackI b).2.2 = 0 → Whole b ∧ b.drop (b.length - 4) = fourI (onI 0 (b.take (b.length - 4))) ∧ ∃ l, parse b.length ((b.take (b.length - 4)).drop 7) 0 = some l ∧ unpackI b = (rd b 6, l, 0) := by
  intro h
  unfold unpackI at h ⊢
  by_cases h0 : (sizeI b).2 = 0
  · rw [if_pos h0] at h ⊢
    obtain ⟨e1, e2, e3, e4, e5, e6⟩ := sizeI_ok b h0
    by_cases h1 : (b.length : Int) < (sizeI b).1
    · rw [if_pos h1] at h; cases h
    rw [if_neg h1] at h ⊢
    by_cases h2 : (b.length : Int) > (sizeI b).1
    · rw [if_pos h2] at h; cases h
    rw [if_neg h2] at h ⊢
    by_cases h3 : b.drop (b.length - 4) = fourI (onI 0 (b.take (b.length - 4)))
    · rw [if_pos h3] at h ⊢
      refine ⟨?_, h3, ?_⟩
      · unfold Whole
        rw [show sizeI b = ((sizeI b).1, (sizeI b).2) from rfl, h0]
        congr 1
        omega
      cases hp : parse b.length ((b.take (b.length - 4)).drop 7) 0 with
      | none => rw [hp] at h; cases h
      | some l => exact ⟨l, rfl, rfl⟩
    rw [if_neg h3] at h; cases h
  rw [if_neg h0] at h
  exact absurd h h0
theorem le4_fourI (b : List Int) (hB : BI b) (h : 6 ≤ b.length) : fourI (le4 b) = [rd b 2, rd b 3, rd b 4, rd b 5] := by
  have h2 := rd_BI b hB 2 (by omega)
  have h3 := rd_BI b hB 3 (by omega)
  have h4 := rd_BI b hB 4 (by omega)
  have h5 := rd_BI b hB 5 (by omega)
  rw [show ((2 : Nat) : Int) = 2 from rfl] at h2
  rw [show ((3 : Nat) : Int) = 3 from rfl] at h3
  rw [show ((4 : Nat) : Int) = 4 from rfl] at h4
  rw [show ((5 : Nat) : Int) = 5 from rfl] at h5
  unfold fourI le4
  generalize rd b 2 = a at *
  generalize rd b 3 = c at *
  generalize rd b 4 = d at *
  generalize rd b 5 = e at *
  rw [show (a + 256 * c + 65536 * d + 16777216 * e) % 256 = a by omega, show (a + 256 * c + 65536 * d + 16777216 * e) / 256 % 256 = c by omega, show (a + 256 * c + 65536 * d + 16777216 * e) / 65536 % 256 = d by omega, show (a + 256 * c + 65536 * d + 16777216 * e) / 16777216 % 256 = e by omega]
theorem head7 (b : List Int) (h : 7 ≤ b.length) : b = rd b 0 :: rd b 1 :: rd b 2 :: rd b 3 :: rd b 4 :: rd b 5 :: rd b 6 :: b.drop 7 := by
  match b, h with
  | x0 :: x1 :: x2 :: x3 :: x4 :: x5 :: x6 :: r, _ => rfl
theorem pack_unpackI (b : List Int) (hB : BI b) (k : Int) (l : List S48) (h : unpackI b = (k, l, 0)) : packI k l = (b, 0) ∧ OKs l ∧ okay k l = true := by
  obtain ⟨hw, hd, l', hp, hu⟩ := unpackI_cases b (by rw [h])
  rw [hu] at h
  have h1 : rd b 6 = k := congrArg Prod.fst h
  have h2 : l' = l := congrArg (fun x => x.2.1) h
  subst h2
  subst h1
  obtain ⟨e1, e2, e3, e4, e5⟩ := whole_parts b hw
  have hB1 := BI_take hB (b.length - 4)
  have hl1 : (b.take (b.length - 4)).length = b.length - 4 := by rw [List.length_take]; omega
  obtain ⟨p1, p2, p3, p4⟩ := parse_ok _ _ _ _ (BI_drop hB1 7) hp
  have h6 := rd_BI b hB 6 (by omega)
  rw [show ((6 : Nat) : Int) = 6 from rfl] at h6
  have hok : okay (rd b 6) l' = true := by
    unfold okay
    rw [decide_eq_true (by omega), Bool.true_and]
    exact p2 (by omega)
  have hsl : (secs l').length = b.length - 11 := by rw [p1, List.length_drop, hl1]; omega
  have hpb : packB (rd b 6) l' = b.take (b.length - 4) := by
    rw [head7 (b.take (b.length - 4)) (by omega), ← p1]
    have r0 := rd_take b 0 (b.length - 4) (by omega)
    have r1 := rd_take b 1 (b.length - 4) (by omega)
    have r2 := rd_take b 2 (b.length - 4) (by omega)
    have r3 := rd_take b 3 (b.length - 4) (by omega)
    have r4 := rd_take b 4 (b.length - 4) (by omega)
    have r5 := rd_take b 5 (b.length - 4) (by omega)
    have r6 := rd_take b 6 (b.length - 4) (by omega)
    have q0 : rd (b.take (b.length - 4)) 0 = 73 := r0.trans e4
    have q1 : rd (b.take (b.length - 4)) 1 = 80 := r1.trans e5
    have q2 : rd (b.take (b.length - 4)) 2 = rd b 2 := r2
    have q3 : rd (b.take (b.length - 4)) 3 = rd b 3 := r3
    have q4 : rd (b.take (b.length - 4)) 4 = rd b 4 := r4
    have q5 : rd (b.take (b.length - 4)) 5 = rd b 5 := r5
    have q6 : rd (b.take (b.length - 4)) 6 = rd b 6 := r6
    rw [q0, q1, q2, q3, q4, q5, q6]
    have hf := le4_fourI b hB (by omega)
    rw [e3] at hf
    unfold packB
    rw [show 10 + (1 + (secs l').length) = b.length by omega, hf, Int.emod_eq_of_lt (by omega) (by omega)]
    rfl
  refine ⟨?_, p3, hok⟩
  rw [packI_of _ _ hok p4 (by omega)]
  have : sealI (packB (rd b 6) l') = b := by
    rw [hpb]
    unfold sealI
    rw [← hd, List.take_append_drop]
  rw [this]
end Go.Proofs.Ytkeekganabafbaa.Pure
end
section
namespace Go.Proofs.Ytkeekganabafbaa.X
open Go.RowKit Go.Proofs.YtkeekganabafbaaW.PrintWords Go.Proofs.YtkeekganabafbaaW.PrintLast Go.Proofs.YtkeekganabafbaaW.PrintMore
attribute [local go_sem] max2_int min2_int max_two min_two max_three min_three max_four min_four
set_option linter.unusedVariables false
set_option linter.unusedSimpArgs false
def rd_LA (xs : List (List S38)) (i : Int) : (List S38) := xs.getD i.toNat ([] : List S38)
theorem at_LA {w : World} {A : Option Addr} {n : Nat} {xs : List (List S38)} (h : Kd.C (Kd.slice 38 k38) w A n xs) (i : Int) (h0 : 0 ≤ i) (h1 : i < n) : ∃ ad A0 c0, A = some ad ∧ w.cell? (ad.add i.toNat) = some (.slice A0 (rd_LA xs i).length c0) ∧ (rd_LA xs i).length ≤ c0 ∧ Kd.C k38 w A0 (rd_LA xs i).length (rd_LA xs i) := by
  obtain ⟨ad, c, e, _, hK, hc0⟩ := Kd.C_get h ([] : List S38) i h0 h1
  have hc : ∀ j u, c[j]? = some u → w.cell? (ad.add (i.toNat * 1 + j)) = some u := hc0
  obtain ⟨A0, c0, rfl, l0, g0⟩ := hK
  exact ⟨ad, A0, c0, e, by have hq := hc 0 _ rfl; rwa [Nat.mul_one, Nat.add_zero] at hq, l0, g0⟩
structure Tab where
  cls : List Int
  next : List (List Int)
  rule : List Int
  terms : List Int
  action : List (List S38)
  goto : List (List Int)
  left : List Int
  size : List Int
structure TL where
  a1 : Option Addr
  c1 : Nat
  a2 : Option Addr
  c2 : Nat
  a3 : Option Addr
  c3 : Nat
  a4 : Option Addr
  c4 : Nat
  a5 : Option Addr
  c5 : Nat
  a6 : Option Addr
  c6 : Nat
  a7 : Option Addr
  c7 : Nat
def ccells (T : Tab) : List Value := T.cls.map (Value.int .i64)
def dcells (T : Tab) (p : TL) : List Value := ccells T ++ [.slice p.a1 T.next.length p.c1, .slice p.a2 T.rule.length p.c2]
def tcells (T : Tab) (p : TL) : List Value := dcells T p ++ [.slice p.a3 T.terms.length p.c3, .slice p.a4 T.action.length p.c4, .slice p.a5 T.goto.length p.c5, .slice p.a6 T.left.length p.c6, .slice p.a7 T.size.length p.c7]
structure DabR (w : World) (T : Tab) (p : TL) : Prop where
  cls : T.cls.length = 256
  r1 : Kd.C (Kd.slice 3 (Kd.int .i64)) w p.a1 T.next.length T.next
  l1 : T.next.length ≤ p.c1
  r2 : Kd.C (Kd.int .i64) w p.a2 T.rule.length T.rule
  l2 : T.rule.length ≤ p.c2
structure TabR (w : World) (T : Tab) (p : TL) : Prop extends DabR w T p where
  r3 : Kd.C (Kd.int .i64) w p.a3 T.terms.length T.terms
  l3 : T.terms.length ≤ p.c3
  r4 : Kd.C (Kd.slice 38 k38) w p.a4 T.action.length T.action
  l4 : T.action.length ≤ p.c4
  r5 : Kd.C (Kd.slice 3 (Kd.int .i64)) w p.a5 T.goto.length T.goto
  l5 : T.goto.length ≤ p.c5
  r6 : Kd.C (Kd.int .i64) w p.a6 T.left.length T.left
  l6 : T.left.length ≤ p.c6
  r7 : Kd.C (Kd.int .i64) w p.a7 T.size.length T.size
  l7 : T.size.length ≤ p.c7
theorem DabR.below {w w' : World} {T : Tab} {p : TL} (h : DabR w T p) (hB : Below w.heap.size w w') : DabR w' T p := ⟨h.cls, Kd.C_below h.r1 hB, h.l1, Kd.C_below h.r2 hB, h.l2⟩
theorem TabR.below {w w' : World} {T : Tab} {p : TL} (h : TabR w T p) (hB : Below w.heap.size w w') : TabR w' T p :=
  { toDabR := h.toDabR.below hB, r3 := Kd.C_below h.r3 hB, l3 := h.l3, r4 := Kd.C_below h.r4 hB, l4 := h.l4, r5 := Kd.C_below h.r5 hB, l5 := h.l5, r6 := Kd.C_below h.r6 hB, l6 := h.l6, r7 := Kd.C_below h.r7 hB, l7 := h.l7 }
theorem ccells_length (T : Tab) : (ccells T).length = T.cls.length := List.length_map _
theorem dcells_at {T : Tab} {p : TL} (h : T.cls.length = 256) (j : Nat) : (dcells T p)[256 + j]? = [Value.slice p.a1 T.next.length p.c1, .slice p.a2 T.rule.length p.c2][j]? := by
  unfold dcells
  rw [List.getElem?_append_right (by rw [ccells_length, h]; omega), ccells_length, h, Nat.add_sub_cancel_left]
theorem dcells_length {T : Tab} {p : TL} (h : T.cls.length = 256) : (dcells T p).length = 258 := by
  unfold dcells
  rw [List.length_append, ccells_length, h]
  rfl
theorem tcells_length {T : Tab} {p : TL} (h : T.cls.length = 256) : (tcells T p).length = 263 := by
  unfold tcells
  rw [List.length_append, dcells_length h]
  rfl
theorem tcells_at {T : Tab} {p : TL} (h : T.cls.length = 256) (j : Nat) : (tcells T p)[258 + j]? = [Value.slice p.a3 T.terms.length p.c3, .slice p.a4 T.action.length p.c4, .slice p.a5 T.goto.length p.c5, .slice p.a6 T.left.length p.c6, .slice p.a7 T.size.length p.c7][j]? := by
  unfold tcells
  rw [List.getElem?_append_right (by rw [dcells_length h]; omega), dcells_length h, Nat.add_sub_cancel_left]
theorem tcells_low {T : Tab} {p : TL} (h : T.cls.length = 256) (j : Nat) (hj : j < 258) : (tcells T p)[j]? = (dcells T p)[j]? := by
  unfold tcells
  exact List.getElem?_append_left (by rw [dcells_length h]; exact hj)
theorem dcells_low {T : Tab} {p : TL} (h : T.cls.length = 256) (j : Nat) (hj : j < 256) : (dcells T p)[j]? = (ccells T)[j]? := by
  unfold dcells
  exact List.getElem?_append_left (by rw [ccells_length, h]; exact hj)
abbrev TBlk (w : World) (g : Nat) (T : Tab) (p : TL) (t : TypeId) : Prop := w.heap[g]? = some (.cells (tcells T p).toArray t (0, 0))
abbrev DBlk (w : World) (g : Nat) (T : Tab) (p : TL) (t : TypeId) : Prop := w.heap[g]? = some (.cells (dcells T p).toArray t (0, 0))
theorem TBlk.at_ {w : World} {g : Nat} {T : Tab} {p : TL} {t : TypeId} (h : TBlk w g T p t) (hc : T.cls.length = 256) (j : Nat) (hj : j < 258) : w.cell? ⟨g, j, none⟩ = (dcells T p)[j]? := by
  rw [blk_cell h j, List.getElem?_toArray, tcells_low hc j hj]
theorem TBlk.tail {w : World} {g : Nat} {T : Tab} {p : TL} {t : TypeId} (h : TBlk w g T p t) (hc : T.cls.length = 256) (j : Nat) : w.cell? ⟨g, 258 + j, none⟩ = [Value.slice p.a3 T.terms.length p.c3, .slice p.a4 T.action.length p.c4, .slice p.a5 T.goto.length p.c5, .slice p.a6 T.left.length p.c6, .slice p.a7 T.size.length p.c7][j]? := by
  rw [blk_cell h (258 + j), List.getElem?_toArray, tcells_at hc j]
theorem DBlk.tail {w : World} {g : Nat} {T : Tab} {p : TL} {t : TypeId} (h : DBlk w g T p t) (hc : T.cls.length = 256) (j : Nat) : w.cell? ⟨g, 256 + j, none⟩ = [Value.slice p.a1 T.next.length p.c1, .slice p.a2 T.rule.length p.c2][j]? := by
  rw [blk_cell h (256 + j), List.getElem?_toArray, dcells_at hc j]
theorem TBlk.mid {w : World} {g : Nat} {T : Tab} {p : TL} {t : TypeId} (h : TBlk w g T p t) (hc : T.cls.length = 256) (j : Nat) (hj : j < 2) : w.cell? ⟨g, 256 + j, none⟩ = [Value.slice p.a1 T.next.length p.c1, .slice p.a2 T.rule.length p.c2][j]? := by
  rw [TBlk.at_ h hc (256 + j) (by omega), dcells_at hc j]
theorem TBlk.rangeT {w : World} {g : Nat} {T : Tab} {p : TL} {t : TypeId} (h : TBlk w g T p t) : w.rangeAt g 0 (tcells T p) := fun j v hv => by rw [Nat.zero_add, blk_cell h j, List.getElem?_toArray]; exact hv
theorem TBlk.rangeD {w : World} {g : Nat} {T : Tab} {p : TL} {t : TypeId} (h : TBlk w g T p t) (hc : T.cls.length = 256) : w.rangeAt g 0 (dcells T p) := fun j v hv => by
  have hj : j < 258 := by have := (List.getElem?_eq_some_iff.1 hv).1; rwa [dcells_length hc] at this
  rw [Nat.zero_add, TBlk.at_ h hc j hj]; exact hv
theorem TBlk.rangeC {w : World} {g : Nat} {T : Tab} {p : TL} {t : TypeId} (h : TBlk w g T p t) (hc : T.cls.length = 256) : w.rangeAt g 0 (ccells T) := fun j v hv => by
  have hj : j < 256 := by have := (List.getElem?_eq_some_iff.1 hv).1; rwa [ccells_length, hc] at this
  rw [Nat.zero_add, TBlk.at_ h hc j (by omega), dcells_low hc j hj]; exact hv
theorem DBlk.rangeC {w : World} {g : Nat} {T : Tab} {p : TL} {t : TypeId} (h : DBlk w g T p t) (hc : T.cls.length = 256) : w.rangeAt g 0 (ccells T) := fun j v hv => by
  have hj : j < 256 := by have := (List.getElem?_eq_some_iff.1 hv).1; rwa [ccells_length, hc] at this
  rw [Nat.zero_add, blk_cell h j, List.getElem?_toArray, dcells_low hc j hj]; exact hv
theorem size22 : (Try.prog.info? 22).map (·.size) = some 256 := by kernel_rfl
theorem size26 : (Try.prog.info? 26).map (·.size) = some 258 := by kernel_rfl
theorem size29 : (Try.prog.info? 29).map (·.size) = some 263 := by kernel_rfl
end Go.Proofs.Ytkeekganabafbaa.X
end
section
namespace Go.Proofs.Ytkeekganabafbaa.X
open Go.RowKit Go.Proofs.YtkeekganabafbaaW.PrintWords Go.Proofs.YtkeekganabafbaaW.PrintLast Go.Proofs.YtkeekganabafbaaW.PrintMore
attribute [local go_sem] max2_int min2_int max_two min_two max_three min_three max_four min_four
set_option linter.unusedVariables false
set_option linter.unusedSimpArgs false
theorem drop_at {α : Type} (l : List α) (z : α) (i : Int) (h0 : 0 ≤ i) (h1 : i < (l.length : Int)) : l.drop i.toNat = l.getD i.toNat z :: l.drop (i + 1).toNat := by
  obtain ⟨j, rfl⟩ := Int.eq_ofNat_of_zero_le h0
  have hj : j < l.length := by omega
  rw [show ((j : Int) + 1).toNat = j + 1 by omega, Int.toNat_natCast, List.drop_eq_getElem_cons hj, List.getD_eq_getElem?_getD, List.getElem?_eq_getElem hj]
  rfl
theorem c52 (q : Addr) (n : Int) (x : Int) (w : World) (h : w.cell? q = some (.int .i64 n)) : Calls Try.prog 52 #[.int .i64 x, .pointer (some q)] w fun e w' => e = .returned (.bool (decide (x < 0) || decide (n ≤ x))) ∧ w' = w := by
  by_cases h1 : x < 0
  · have d1 : decide (x < 0) = true := decide_eq_true h1
    clear h1
    go_enter Try.func52, Try.ntmps52
    go_wp2
    go_ret
    exact ⟨by rw [d1]; rfl, rfl⟩
  have d1 : decide (x < 0) = false := decide_eq_false h1
  clear h1
  go_enter Try.func52, Try.ntmps52
  go_wp2
  go_ret
  exact ⟨by rw [d1]; rfl, rfl⟩
theorem c56 (q : Addr) (n : Int) (x : Int) (w : World) (h : w.cell? q = some (.int .i64 n)) : Calls Try.prog 56 #[.int .i64 x, .pointer (some q)] w fun e w' => e = .returned (.bool (decide (x < -1) || decide (n ≤ x))) ∧ w' = w := by
  by_cases h1 : x < -1
  · have d1 : decide (x < -1) = true := decide_eq_true h1
    clear h1
    go_enter Try.func56, Try.ntmps56
    go_wp2
    go_ret
    exact ⟨by rw [d1]; rfl, rfl⟩
  have d1 : decide (x < -1) = false := decide_eq_false h1
  clear h1
  go_enter Try.func56, Try.ntmps56
  go_wp2
  go_ret
  exact ⟨by rw [d1]; rfl, rfl⟩
theorem c53 (g : Nat) (a3 : Option Addr) (n c3 : Nat) (x : Int) (w : World) (h : w.cell? ⟨g, 258, none⟩ = some (.slice a3 n c3)) : Calls Try.prog 53 #[.int .i64 x, .pointer (some ⟨g, 0, none⟩)] w fun e w' => e = .returned (.bool (decide ((n : Int) ≤ x))) ∧ w' = w := by
  go_enter Try.func53, Try.ntmps53
  go_wp2
  go_ret
  exact ⟨rfl, rfl⟩
set_option maxHeartbeats 8000000 in
set_option maxRecDepth 100000 in
theorem idx52 (q : Addr) (n : Int) (L : List Int) (A : Option Addr) (m c : Nat) (w : World) (hm : L.length = m) (hC : Kd.C (Kd.int .i64) w A m L) (hc : m ≤ c) (h : w.cell? q = some (.int .i64 n)) (hl : m ≤ 9223372036854775806) :
    Calls Try.prog 77 #[.slice A m c, .func (.func 52) #[] #[.pointer (some q)]] w fun e w' => ∃ r : Int, e = .returned (.int .i64 r) ∧ decide (0 ≤ r) = L.any (fun x => (decide (x < 0) || decide (n ≤ x))) ∧ w' = w := by
  subst hm
  obtain ⟨P, hP⟩ : ∃ P, P = fun x : Int => (decide (x < 0) || decide (n ≤ x)) := ⟨_, rfl⟩
  have HL := Aside0.mk hl
  clear hl
  go_enter Try.func77, Try.ntmps77
  go_wp2_with (fail)
  go_loopg [8] (L.length + 1) (fun kq v8 w' => ∃ i : Int, v8 = .int .i64 i ∧ Aside0 (0 ≤ i) ∧ Aside0 (i ≤ (L.length : Int)) ∧ Aside0 ((kq : Int) + i = (L.length : Int) + 1) ∧ Aside0 ((L.drop i.toNat).any P = L.any P) ∧ w' = w)
  case atStart => exact ⟨0, rfl, ⟨by decide⟩, ⟨by omega⟩, ⟨by omega⟩, ⟨rfl⟩, rfl⟩
  obtain ⟨i, rfl, hi0, hi1, hk, ha, rfl⟩ := hrel
  have hkk := hk.out
  by_cases hlt : i < (L.length : Int)
  · have d1 : decide (i < (L.length : Int)) = true := decide_eq_true hlt
    have hwi : IntKind.i64.wrap (i + 1) = i + 1 := by have := hi0.out; have := HL.out; simp only [i64_w]; unfold wrap64; omega
    have p1 := eq_true hi0.out
    have q1 := eq_true hlt
    obtain ⟨ad, ea, hx⟩ := Kd.at_int hC i hi0.out hlt
    subst ea
    have hd := drop_at L (0 : Int) i hi0.out hlt
    have HLT := Aside0.mk hlt
    clear hlt
    have HA := Aside0.mk (show (P (rd L i) || (L.drop (i + 1).toNat).any P) = L.any P from by rw [← ha.out, hd]; rfl)
    clear hd
    obtain ⟨x, hx_⟩ : ∃ x, x = rd L i := ⟨_, rfl⟩
    rw [← hx_] at HA hx
    clear hx_
    by_cases hp : P x = true
    · have HP := Aside0.mk (show (decide (x < 0) || decide (n ≤ x)) = true from by have := hp; rw [hP] at this; exact this)
      have HP2 := Aside0.mk hp
      clear hp
      go_wp2_with (first | (go_at_call 52; refine (c52 q n x _ h).mono ?_; rintro e w1 ⟨he, rfl⟩; rw [HP.out] at he; subst he))
      go_ret
      exact ⟨i, rfl, by rw [decide_eq_true hi0.out, ← hP, ← HA.out, HP2.out]; rfl, rfl⟩
    have HP2 := Aside0.mk (show P x = false from by simpa using hp)
    have HP := Aside0.mk (show (decide (x < 0) || decide (n ≤ x)) = false from by have := HP2.out; rw [hP] at this; exact this)
    clear hp
    go_wp2_with (first | (go_at_call 52; refine (c52 q n x _ h).mono ?_; rintro e w1 ⟨he, rfl⟩; rw [HP.out] at he; subst he))
    go_roundg (gk - 1)
    case measure => have := HLT.out; have := hi0.out; omega
    case rel => exact ⟨i + 1, rfl, ⟨by have := hi0.out; omega⟩, ⟨by have := HLT.out; omega⟩, ⟨by have := HLT.out; omega⟩, ⟨by rw [← HA.out, HP2.out]; rfl⟩, rfl⟩
  have d1 : decide (i < (L.length : Int)) = false := decide_eq_false hlt
  have hz : L.any P = false := by rw [← ha.out, List.drop_eq_nil_of_le (by omega)]; rfl
  rw [hP] at hz
  have HZ := Aside0.mk hz
  clear hz hkk
  go_wp2_with (fail)
  go_ret
  exact ⟨-1, rfl, by rw [HZ.out]; rfl, rfl⟩
set_option maxHeartbeats 8000000 in
theorem has52 (q : Addr) (n : Int) (L : List Int) (A : Option Addr) (m c : Nat) (w : World) (hm : L.length = m) (hC : Kd.C (Kd.int .i64) w A m L) (hc : m ≤ c) (h : w.cell? q = some (.int .i64 n)) (hl : m ≤ 9223372036854775806) (r : Bool) (hr : L.any (fun x => (decide (x < 0) || decide (n ≤ x))) = r) :
    Calls Try.prog 54 #[.slice A m c, .func (.func 52) #[] #[.pointer (some q)]] w fun e w' => e = .returned (.bool r) ∧ w' = w := by
  have HR := Aside0.mk hr
  clear hr
  go_enter Try.func54, Try.ntmps54
  go_wp2_with (first | (go_at_call 77; refine (idx52 q n L A m c _ hm hC hc h hl).mono ?_; rintro e w1 ⟨x, rfl, hx, rfl⟩; rw [HR.out] at hx))
  go_ret
  exact ⟨rfl, rfl⟩
set_option maxHeartbeats 8000000 in
set_option maxRecDepth 100000 in
theorem idx56 (q : Addr) (n : Int) (L : List Int) (A : Option Addr) (m c : Nat) (w : World) (hm : L.length = m) (hC : Kd.C (Kd.int .i64) w A m L) (hc : m ≤ c) (h : w.cell? q = some (.int .i64 n)) (hl : m ≤ 9223372036854775806) :
    Calls Try.prog 77 #[.slice A m c, .func (.func 56) #[] #[.pointer (some q)]] w fun e w' => ∃ r : Int, e = .returned (.int .i64 r) ∧ decide (0 ≤ r) = L.any (fun x => (decide (x < -1) || decide (n ≤ x))) ∧ w' = w := by
  subst hm
  obtain ⟨P, hP⟩ : ∃ P, P = fun x : Int => (decide (x < -1) || decide (n ≤ x)) := ⟨_, rfl⟩
  have HL := Aside0.mk hl
  clear hl
  go_enter Try.func77, Try.ntmps77
  go_wp2_with (fail)
  go_loopg [8] (L.length + 1) (fun kq v8 w' => ∃ i : Int, v8 = .int .i64 i ∧ Aside0 (0 ≤ i) ∧ Aside0 (i ≤ (L.length : Int)) ∧ Aside0 ((kq : Int) + i = (L.length : Int) + 1) ∧ Aside0 ((L.drop i.toNat).any P = L.any P) ∧ w' = w)
  case atStart => exact ⟨0, rfl, ⟨by decide⟩, ⟨by omega⟩, ⟨by omega⟩, ⟨rfl⟩, rfl⟩
  obtain ⟨i, rfl, hi0, hi1, hk, ha, rfl⟩ := hrel
  have hkk := hk.out
  by_cases hlt : i < (L.length : Int)
  · have d1 : decide (i < (L.length : Int)) = true := decide_eq_true hlt
    have hwi : IntKind.i64.wrap (i + 1) = i + 1 := by have := hi0.out; have := HL.out; simp only [i64_w]; unfold wrap64; omega
    have p1 := eq_true hi0.out
    have q1 := eq_true hlt
    obtain ⟨ad, ea, hx⟩ := Kd.at_int hC i hi0.out hlt
    subst ea
    have hd := drop_at L (0 : Int) i hi0.out hlt
    have HLT := Aside0.mk hlt
    clear hlt
    have HA := Aside0.mk (show (P (rd L i) || (L.drop (i + 1).toNat).any P) = L.any P from by rw [← ha.out, hd]; rfl)
    clear hd
    obtain ⟨x, hx_⟩ : ∃ x, x = rd L i := ⟨_, rfl⟩
    rw [← hx_] at HA hx
    clear hx_
    by_cases hp : P x = true
    · have HP := Aside0.mk (show (decide (x < -1) || decide (n ≤ x)) = true from by have := hp; rw [hP] at this; exact this)
      have HP2 := Aside0.mk hp
      clear hp
      go_wp2_with (first | (go_at_call 56; refine (c56 q n x _ h).mono ?_; rintro e w1 ⟨he, rfl⟩; rw [HP.out] at he; subst he))
      go_ret
      exact ⟨i, rfl, by rw [decide_eq_true hi0.out, ← hP, ← HA.out, HP2.out]; rfl, rfl⟩
    have HP2 := Aside0.mk (show P x = false from by simpa using hp)
    have HP := Aside0.mk (show (decide (x < -1) || decide (n ≤ x)) = false from by have := HP2.out; rw [hP] at this; exact this)
    clear hp
    go_wp2_with (first | (go_at_call 56; refine (c56 q n x _ h).mono ?_; rintro e w1 ⟨he, rfl⟩; rw [HP.out] at he; subst he))
    go_roundg (gk - 1)
    case measure => have := HLT.out; have := hi0.out; omega
    case rel => exact ⟨i + 1, rfl, ⟨by have := hi0.out; omega⟩, ⟨by have := HLT.out; omega⟩, ⟨by have := HLT.out; omega⟩, ⟨by rw [← HA.out, HP2.out]; rfl⟩, rfl⟩
  have d1 : decide (i < (L.length : Int)) = false := decide_eq_false hlt
  have hz : L.any P = false := by rw [← ha.out, List.drop_eq_nil_of_le (by omega)]; rfl
  rw [hP] at hz
  have HZ := Aside0.mk hz
  clear hz hkk
  go_wp2_with (fail)
  go_ret
  exact ⟨-1, rfl, by rw [HZ.out]; rfl, rfl⟩
set_option maxHeartbeats 8000000 in
theorem has56 (q : Addr) (n : Int) (L : List Int) (A : Option Addr) (m c : Nat) (w : World) (hm : L.length = m) (hC : Kd.C (Kd.int .i64) w A m L) (hc : m ≤ c) (h : w.cell? q = some (.int .i64 n)) (hl : m ≤ 9223372036854775806) (r : Bool) (hr : L.any (fun x => (decide (x < -1) || decide (n ≤ x))) = r) :
    Calls Try.prog 54 #[.slice A m c, .func (.func 56) #[] #[.pointer (some q)]] w fun e w' => e = .returned (.bool r) ∧ w' = w := by
  have HR := Aside0.mk hr
  clear hr
  go_enter Try.func54, Try.ntmps54
  go_wp2_with (first | (go_at_call 77; refine (idx56 q n L A m c _ hm hC hc h hl).mono ?_; rintro e w1 ⟨x, rfl, hx, rfl⟩; rw [HR.out] at hx))
  go_ret
  exact ⟨rfl, rfl⟩
set_option maxHeartbeats 8000000 in
set_option maxRecDepth 100000 in
theorem idx53 (g : Nat) (a3 : Option Addr) (n c3 : Nat) (L : List Int) (A : Option Addr) (m c : Nat) (w : World) (hm : L.length = m) (hC : Kd.C (Kd.int .i64) w A m L) (hc : m ≤ c) (h : w.cell? ⟨g, 258, none⟩ = some (.slice a3 n c3)) (hl : m ≤ 9223372036854775806) :
    Calls Try.prog 77 #[.slice A m c, .func (.func 53) #[] #[.pointer (some ⟨g, 0, none⟩)]] w fun e w' => ∃ r : Int, e = .returned (.int .i64 r) ∧ decide (0 ≤ r) = L.any (fun x => decide ((n : Int) ≤ x)) ∧ w' = w := by
  subst hm
  obtain ⟨P, hP⟩ : ∃ P, P = fun x : Int => decide ((n : Int) ≤ x) := ⟨_, rfl⟩
  have HL := Aside0.mk hl
  clear hl
  go_enter Try.func77, Try.ntmps77
  go_wp2_with (fail)
  go_loopg [8] (L.length + 1) (fun kq v8 w' => ∃ i : Int, v8 = .int .i64 i ∧ Aside0 (0 ≤ i) ∧ Aside0 (i ≤ (L.length : Int)) ∧ Aside0 ((kq : Int) + i = (L.length : Int) + 1) ∧ Aside0 ((L.drop i.toNat).any P = L.any P) ∧ w' = w)
  case atStart => exact ⟨0, rfl, ⟨by decide⟩, ⟨by omega⟩, ⟨by omega⟩, ⟨rfl⟩, rfl⟩
  obtain ⟨i, rfl, hi0, hi1, hk, ha, rfl⟩ := hrel
  have hkk := hk.out
  by_cases hlt : i < (L.length : Int)
  · have d1 : decide (i < (L.length : Int)) = true := decide_eq_true hlt
    have hwi : IntKind.i64.wrap (i + 1) = i + 1 := by have := hi0.out; have := HL.out; simp only [i64_w]; unfold wrap64; omega
    have p1 := eq_true hi0.out
    have q1 := eq_true hlt
    obtain ⟨ad, ea, hx⟩ := Kd.at_int hC i hi0.out hlt
    subst ea
    have hd := drop_at L (0 : Int) i hi0.out hlt
    have HLT := Aside0.mk hlt
    clear hlt
    have HA := Aside0.mk (show (P (rd L i) || (L.drop (i + 1).toNat).any P) = L.any P from by rw [← ha.out, hd]; rfl)
    clear hd
    obtain ⟨x, hx_⟩ : ∃ x, x = rd L i := ⟨_, rfl⟩
    rw [← hx_] at HA hx
    clear hx_
    by_cases hp : P x = true
    · have HP := Aside0.mk (show decide ((n : Int) ≤ x) = true from by have := hp; rw [hP] at this; exact this)
      have HP2 := Aside0.mk hp
      clear hp
      go_wp2_with (first | (go_at_call 53; refine (c53 g a3 n c3 x _ h).mono ?_; rintro e w1 ⟨he, rfl⟩; rw [HP.out] at he; subst he))
      go_ret
      exact ⟨i, rfl, by rw [decide_eq_true hi0.out, ← hP, ← HA.out, HP2.out]; rfl, rfl⟩
    have HP2 := Aside0.mk (show P x = false from by simpa using hp)
    have HP := Aside0.mk (show decide ((n : Int) ≤ x) = false from by have := HP2.out; rw [hP] at this; exact this)
    clear hp
    go_wp2_with (first | (go_at_call 53; refine (c53 g a3 n c3 x _ h).mono ?_; rintro e w1 ⟨he, rfl⟩; rw [HP.out] at he; subst he))
    go_roundg (gk - 1)
    case measure => have := HLT.out; have := hi0.out; omega
    case rel => exact ⟨i + 1, rfl, ⟨by have := hi0.out; omega⟩, ⟨by have := HLT.out; omega⟩, ⟨by have := HLT.out; omega⟩, ⟨by rw [← HA.out, HP2.out]; rfl⟩, rfl⟩
  have d1 : decide (i < (L.length : Int)) = false := decide_eq_false hlt
  have hz : L.any P = false := by rw [← ha.out, List.drop_eq_nil_of_le (by omega)]; rfl
  rw [hP] at hz
  have HZ := Aside0.mk hz
  clear hz hkk
  go_wp2_with (fail)
  go_ret
  exact ⟨-1, rfl, by rw [HZ.out]; rfl, rfl⟩
set_option maxHeartbeats 8000000 in
theorem has53 (g : Nat) (a3 : Option Addr) (n c3 : Nat) (L : List Int) (A : Option Addr) (m c : Nat) (w : World) (hm : L.length = m) (hC : Kd.C (Kd.int .i64) w A m L) (hc : m ≤ c) (h : w.cell? ⟨g, 258, none⟩ = some (.slice a3 n c3)) (hl : m ≤ 9223372036854775806) (r : Bool) (hr : L.any (fun x => decide ((n : Int) ≤ x)) = r) :
    Calls Try.prog 54 #[.slice A m c, .func (.func 53) #[] #[.pointer (some ⟨g, 0, none⟩)]] w fun e w' => e = .returned (.bool r) ∧ w' = w := by
  have HR := Aside0.mk hr
  clear hr
  go_enter Try.func54, Try.ntmps54
  go_wp2_with (first | (go_at_call 77; refine (idx53 g a3 n c3 L A m c _ hm hC hc h hl).mono ?_; rintro e w1 ⟨x, rfl, hx, rfl⟩; rw [HR.out] at hx))
  go_ret
  exact ⟨rfl, rfl⟩
theorem c76 (A : Option Addr) (n c : Nat) (w : World) : Calls Try.prog 76 #[.slice A n c] w fun e w' => e = .returned (.bool (decide (256 < (n : Int)))) ∧ w' = w := by
  go_enter Try.func76, Try.ntmps76
  go_wp2
  go_ret
  first | exact ⟨rfl, rfl⟩ | exact ⟨by simp, rfl⟩
set_option maxHeartbeats 8000000 in
set_option maxRecDepth 100000 in
theorem idx76 (L : List (List Int)) (A : Option Addr) (m c : Nat) (w : World) (hm : L.length = m) (hC : Kd.C (Kd.slice 3 (Kd.int .i64)) w A m L) (hc : m ≤ c) (hl : m ≤ 9223372036854775806) :
    Calls Try.prog 87 #[.slice A m c, .func (.func 76) #[] #[]] w fun e w' => ∃ r : Int, e = .returned (.int .i64 r) ∧ decide (0 ≤ r) = L.any (fun x => decide (256 < (x.length : Int))) ∧ w' = w := by
  subst hm
  obtain ⟨P, hP⟩ : ∃ P, P = fun x : List Int => decide (256 < (x.length : Int)) := ⟨_, rfl⟩
  have HL := Aside0.mk hl
  clear hl
  go_enter Try.func87, Try.ntmps87
  go_wp2_with (fail)
  go_loopg [8] (L.length + 1) (fun kq v8 w' => ∃ i : Int, v8 = .int .i64 i ∧ Aside0 (0 ≤ i) ∧ Aside0 (i ≤ (L.length : Int)) ∧ Aside0 ((kq : Int) + i = (L.length : Int) + 1) ∧ Aside0 ((L.drop i.toNat).any P = L.any P) ∧ w' = w)
  case atStart => exact ⟨0, rfl, ⟨by decide⟩, ⟨by omega⟩, ⟨by omega⟩, ⟨rfl⟩, rfl⟩
  obtain ⟨i, rfl, hi0, hi1, hk, ha, rfl⟩ := hrel
  have hkk := hk.out
  by_cases hlt : i < (L.length : Int)
  · have d1 : decide (i < (L.length : Int)) = true := decide_eq_true hlt
    have hwi : IntKind.i64.wrap (i + 1) = i + 1 := by have := hi0.out; have := HL.out; simp only [i64_w]; unfold wrap64; omega
    have p1 := eq_true hi0.out
    have q1 := eq_true hlt
    obtain ⟨ad, A2, c2, ea, hx, hl2, hC2⟩ := at_L4 hC i hi0.out hlt
    subst ea
    have hd := drop_at L ([] : List Int) i hi0.out hlt
    have HLT := Aside0.mk hlt
    clear hlt hC2 hl2
    have HA := Aside0.mk (show (P (rd_L4 L i) || (L.drop (i + 1).toNat).any P) = L.any P from by rw [← ha.out, hd]; rfl)
    clear hd
    obtain ⟨x, hx_⟩ : ∃ x, x = rd_L4 L i := ⟨_, rfl⟩
    rw [← hx_] at HA hx
    clear hx_
    by_cases hp : P x = true
    · have HP := Aside0.mk (show decide (256 < (x.length : Int)) = true from by have := hp; rw [hP] at this; exact this)
      have HP2 := Aside0.mk hp
      clear hp
      go_wp2_with (first | (go_at_call 76; refine (c76 A2 x.length c2 _).mono ?_; rintro e w1 ⟨he, rfl⟩; rw [HP.out] at he; subst he))
      go_ret
      exact ⟨i, rfl, by rw [decide_eq_true hi0.out, ← hP, ← HA.out, HP2.out]; rfl, rfl⟩
    have HP2 := Aside0.mk (show P x = false from by simpa using hp)
    have HP := Aside0.mk (show decide (256 < (x.length : Int)) = false from by have := HP2.out; rw [hP] at this; exact this)
    clear hp
    go_wp2_with (first | (go_at_call 76; refine (c76 A2 x.length c2 _).mono ?_; rintro e w1 ⟨he, rfl⟩; rw [HP.out] at he; subst he))
    go_roundg (gk - 1)
    case measure => have := HLT.out; have := hi0.out; omega
    case rel => exact ⟨i + 1, rfl, ⟨by have := hi0.out; omega⟩, ⟨by have := HLT.out; omega⟩, ⟨by have := HLT.out; omega⟩, ⟨by rw [← HA.out, HP2.out]; rfl⟩, rfl⟩
  have d1 : decide (i < (L.length : Int)) = false := decide_eq_false hlt
  have hz : L.any P = false := by rw [← ha.out, List.drop_eq_nil_of_le (by omega)]; rfl
  rw [hP] at hz
  have HZ := Aside0.mk hz
  clear hz hkk
  go_wp2_with (fail)
  go_ret
  exact ⟨-1, rfl, by rw [HZ.out]; rfl, rfl⟩
set_option maxHeartbeats 8000000 in
theorem has76 (L : List (List Int)) (A : Option Addr) (m c : Nat) (w : World) (hm : L.length = m) (hC : Kd.C (Kd.slice 3 (Kd.int .i64)) w A m L) (hc : m ≤ c) (hl : m ≤ 9223372036854775806) (r : Bool) (hr : L.any (fun x => decide (256 < (x.length : Int))) = r) :
    Calls Try.prog 75 #[.slice A m c, .func (.func 76) #[] #[]] w fun e w' => e = .returned (.bool r) ∧ w' = w := by
  have HR := Aside0.mk hr
  clear hr
  go_enter Try.func75, Try.ntmps75
  go_wp2_with (first | (go_at_call 87; refine (idx76 L A m c _ hm hC hc hl).mono ?_; rintro e w1 ⟨x, rfl, hx, rfl⟩; rw [HR.out] at hx))
  go_ret
  exact ⟨rfl, rfl⟩
end Go.Proofs.Ytkeekganabafbaa.X
end
section
namespace Go.Proofs.Ytkeekganabafbaa.X
open Go.RowKit Go.Proofs.YtkeekganabafbaaW.PrintWords Go.Proofs.YtkeekganabafbaaW.PrintLast Go.Proofs.YtkeekganabafbaaW.PrintMore
attribute [local go_sem] max2_int min2_int max_two min_two max_three min_three max_four min_four
set_option linter.unusedVariables false
set_option linter.unusedSimpArgs false
theorem idx_cls {T : Tab} (h : T.cls.length = 256) (i : Int) (h0 : 0 ≤ i) (h1 : i < 256) (W : World) : (Instr.index 22 (.agg (ccells T).toArray) (.int .i64 i)).run Try.prog W = .ok (.int .i64 (rd T.cls i)) W := by
  have hi : 0 ≤ i ∧ i < ((256 : Nat) : Int) := ⟨h0, h1⟩
  have hc : (ccells T)[i.toNat]? = some (.int .i64 (rd T.cls i)) := by
    have hj : i.toNat < T.cls.length := by omega
    unfold ccells rd
    rw [List.getElem?_map, List.getElem?_eq_getElem hj, List.getD_eq_getElem?_getD, List.getElem?_eq_getElem hj]
    rfl
  have hs : (sizeOf 3).run Try.prog W = .ok 1 W := by
    obtain ⟨i3, e3, hz3⟩ := Option.map_eq_some_iff.1 info3
    simp only [Prod.mk.injEq] at hz3
    simp [sizeOf, typeInfo, e3, hz3.2.1, go_sem]
  have hp : (part 3 (ccells T).toArray (i.toNat * 1)).run Try.prog W = .ok (.int .i64 (rd T.cls i)) W := by
    simp [part, isAgg, run_underlying Try.underlying3, hc, go_sem]
  simp only [Instr.index, asIntOf, Sem.run_bind, Sem.run_pure, Result.andThen_ok, run_underlying Try.underlying22]
  rw [if_pos hi]
  simp only [Sem.run_bind, hs, Result.andThen_ok]
  exact hp
def dfaTo (T : Tab) (y : Int) : Bool := decide (-1 ≤ y) && decide (y < (T.next.length : Int))
def dfaPC (T : Tab) (k : Int) : Bool := decide (0 ≤ k) && decide (k < ((rd_L4 T.next 0).length : Int))
def dfaRow (T : Tab) (x : List Int × Int) : Bool := decide (x.1.length = (rd_L4 T.next 0).length) && decide (-1 ≤ x.2) && decide (x.2 < 64) && x.1.all (dfaTo T)
def dfaA (T : Tab) : Bool := !(decide (512 < T.next.length) || decide (512 < T.rule.length) || T.next.any (fun x => decide (256 < (x.length : Int))))
def dfaE (T : Tab) : Bool := !(decide (T.next.length = 0) || decide (T.rule.length ≠ T.next.length) || decide ((rd_L4 T.next 0).length = 0))
def dfaC (T : Tab) : Bool := T.cls.all (dfaPC T)
def dfaD (T : Tab) : Bool := (T.next.zip T.rule).all (dfaRow T)
def dfaB (T : Tab) : Bool := dfaA T && dfaE T && dfaC T && dfaD T
theorem next_le {T : Tab} (h : T.next.any (fun x => decide (256 < (x.length : Int))) = false) (i : Int) (h0 : 0 ≤ i) (h1 : i < (T.next.length : Int)) : (rd_L4 T.next i).length ≤ 256 := by
  rw [List.any_eq_false] at h
  have hj : i.toNat < T.next.length := by omega
  have h2 := h (T.next[i.toNat]) (List.getElem_mem hj)
  rw [decide_eq_true_eq] at h2
  unfold rd_L4
  rw [List.getD_eq_getElem?_getD, List.getElem?_eq_getElem hj]
  show (T.next[i.toNat]).length ≤ 256
  omega
theorem zip_drop (T : Tab) (h : T.rule.length = T.next.length) (i : Int) (h0 : 0 ≤ i) (h1 : i < (T.next.length : Int)) : (T.next.zip T.rule).drop i.toNat = (rd_L4 T.next i, rd T.rule i) :: (T.next.zip T.rule).drop (i + 1).toNat := by
  have hz : (T.next.zip T.rule).length = T.next.length := by rw [List.length_zip, h, Nat.min_self]
  rw [drop_at (T.next.zip T.rule) (([] : List Int), (0 : Int)) i h0 (by rw [hz]; exact h1)]
  congr 1
  have hj1 : i.toNat < T.next.length := by omega
  have hj2 : i.toNat < T.rule.length := by omega
  have hzz : (T.next.zip T.rule)[i.toNat]? = some (T.next[i.toNat], T.rule[i.toNat]) := by rw [List.getElem?_zip_eq_some]; exact ⟨List.getElem?_eq_getElem hj1, List.getElem?_eq_getElem hj2⟩
  unfold rd_L4 rd
  rw [List.getD_eq_getElem?_getD, List.getD_eq_getElem?_getD, List.getD_eq_getElem?_getD, hzz, List.getElem?_eq_getElem hj1, List.getElem?_eq_getElem hj2]
  rfl
set_option maxHeartbeats 16000000 in
set_option maxRecDepth 100000 in
theorem dfa_calls (T : Tab) (p : TL) (w : World) (hT : DabR w T p) (hl1 : T.next.length ≤ 9223372036854775806) (hl2 : T.rule.length ≤ 9223372036854775806) :
    Calls Try.prog 51 #[.agg (dcells T p).toArray] w fun e w' => ∃ x : Int, e = .returned (.int .i64 x) ∧ decide (x = 0) = dfaB T ∧ Below w.heap.size w w' := by
  have hu22 := Aside0.mk Try.underlying22
  go_enter Try.func51, Try.ntmps51
  go_upto_region 1 with (first | ((with_reducible refine gate_dst (N := 1) rfl ?_); refine box_event ?hg (N := 1) ?hd (cs := (dcells T p).toArray) (t := 26) ?hr ?_; (case hd => rfl); (case hg => rfl); (case hr => first | (go_simp; done) | (go_simp; rfl)); intro g hg w1 hbox hb; clear hg))
  have hcl := hT.cls
  have hT1 := Aside0.mk (hT.below hb)
  have HRG := Aside0.mk (DBlk.rangeC hbox hcl)
  have k1 : w1.cell? ⟨g, 256, none⟩ = some (.slice p.a1 T.next.length p.c1) := (DBlk.tail hbox hcl 0).trans rfl
  have k2 : w1.cell? ⟨g, 257, none⟩ = some (.slice p.a2 T.rule.length p.c2) := (DBlk.tail hbox hcl 1).trans rfl
  have HB := Aside0.mk hb
  have hix := fun i h0 h1 W => idx_cls hcl i h0 h1 W
  have HIX := Aside0.mk hix
  have HCL := Aside0.mk hcl
  have HL1 := Aside0.mk hl1
  have HL2 := Aside0.mk hl2
  clear hT hbox hb hcl hix hl1 hl2
  have HT := hT1
  clear hT1
  by_cases a1 : 512 < T.next.length
  · have d1 : decide (512 < (T.next.length : Int)) = true := decide_eq_true (by omega)
    have d1n : decide (512 < T.next.length) = true := decide_eq_true a1
    have A1 := Aside0.mk a1
    clear a1
    have hF : dfaB T = false := by unfold dfaB dfaA; rw [decide_eq_true A1.out]; rfl
    have HF := Aside0.mk hF
    clear hF
    go_wp2_with (fail)
    go_ret
    exact ⟨5, rfl, by rw [HF.out]; rfl, HB.out⟩
  have d1 : decide (512 < (T.next.length : Int)) = false := decide_eq_false (by omega)
  have d1n : decide (512 < T.next.length) = false := decide_eq_false a1
  have A1 := Aside0.mk a1
  clear a1
  by_cases a2 : 512 < T.rule.length
  · have d2 : decide (512 < (T.rule.length : Int)) = true := decide_eq_true (by omega)
    have d2n : decide (512 < T.rule.length) = true := decide_eq_true a2
    have A2 := Aside0.mk a2
    clear a2
    have hF : dfaB T = false := by unfold dfaB dfaA; rw [decide_eq_true A2.out, decide_eq_false A1.out]; rfl
    have HF := Aside0.mk hF
    clear hF
    go_wp2_with (fail)
    go_ret
    exact ⟨5, rfl, by rw [HF.out]; rfl, HB.out⟩
  have d2 : decide (512 < (T.rule.length : Int)) = false := decide_eq_false (by omega)
  have d2n : decide (512 < T.rule.length) = false := decide_eq_false a2
  have A2 := Aside0.mk a2
  clear a2
  obtain ⟨ba, hba⟩ : ∃ b, T.next.any (fun x => decide (256 < (x.length : Int))) = b := ⟨_, rfl⟩
  have HANY := Aside0.mk hba
  clear hba
  cases ba
  rotate_left
  · skip
    have hF : dfaB T = false := by unfold dfaB dfaA; rw [HANY.out, decide_eq_false A1.out, decide_eq_false A2.out]; rfl
    have HF := Aside0.mk hF
    clear hF
    go_wp2_with (first | (go_at_call 75; refine (has76 T.next p.a1 T.next.length p.c1 _ rfl HT.out.r1 HT.out.l1 HL1.out true HANY.out).mono ?_; rintro e w1 ⟨rfl, rfl⟩))
    go_ret
    exact ⟨5, rfl, by rw [HF.out]; rfl, HB.out⟩
  have HA := Aside0.mk (show dfaA T = true from by unfold dfaA; rw [d1n, d2n, HANY.out]; rfl)
  clear d1n d2n
  go_upto_region 3 with (first | (go_at_call 75; refine (has76 T.next p.a1 T.next.length p.c1 _ rfl HT.out.r1 HT.out.l1 HL1.out false HANY.out).mono ?_; rintro e w1 ⟨rfl, rfl⟩))
  by_cases e1 : T.next.length = 0
  · have d3 : ((T.next.length : Int) == 0) = true := beq_iff_eq.mpr (by omega)
    have E1 := Aside0.mk e1
    clear e1
    have hF : dfaB T = false := by unfold dfaB dfaE; rw [decide_eq_true E1.out]; cases dfaA T <;> rfl
    have HF := Aside0.mk hF
    clear hF
    go_wp2_with (fail)
    go_ret
    exact ⟨2, rfl, by rw [HF.out]; rfl, HB.out⟩
  have d3 : ((T.next.length : Int) == 0) = false := beq_eq_false_iff_ne.mpr (by omega)
  have E1 := Aside0.mk e1
  clear e1
  by_cases e2 : T.rule.length = T.next.length
  · have d4 : ((T.rule.length : Int) != (T.next.length : Int)) = false := bne_eq_false_iff_eq.mpr (by omega)
    have E2 := Aside0.mk e2
    clear e2
    obtain ⟨ad, Ar, cr, ea, hx0, hl0, hC0⟩ := at_L4 HT.out.r1 0 (by decide) (by have := E1.out; omega)
    rw [ea] at k1
    simp only [show (0 : Int).toNat = 0 from rfl, Go.Addr.add, ↓reduceIte] at hx0
    have q0 : ((0 : Int) < (T.next.length : Int)) = True := eq_true (by have := E1.out; omega)
    have q0n : (0 < T.next.length) = True := eq_true (by have := E1.out; omega)
    have Q0 := Aside0.mk hx0
    obtain ⟨n0, hn0⟩ : ∃ n, n = (rd_L4 T.next 0).length := ⟨_, rfl⟩
    rw [← hn0] at hx0 hl0
    have HN0 := Aside0.mk hn0
    clear hn0 hC0
    by_cases e3 : n0 = 0
    · have d5 : ((n0 : Int) == 0) = true := beq_iff_eq.mpr (by omega)
      have E3 := Aside0.mk e3
      clear e3
      have hF : dfaB T = false := by unfold dfaB dfaE; rw [decide_eq_false E1.out, decide_eq_false (fun h => h E2.out), ← HN0.out, decide_eq_true E3.out]; cases dfaA T <;> rfl
      have HF := Aside0.mk hF
      clear hF
      go_wp2_with (fail)
      go_ret
      exact ⟨2, rfl, by rw [HF.out]; rfl, HB.out⟩
    have d5 : ((n0 : Int) == 0) = false := beq_eq_false_iff_ne.mpr (by omega)
    have E3 := Aside0.mk e3
    clear e3
    have HE := Aside0.mk (show dfaE T = true from by unfold dfaE; rw [decide_eq_false E1.out, decide_eq_false (fun h => h E2.out), ← HN0.out, decide_eq_false E3.out]; rfl)
    obtain ⟨adr, ear, _⟩ := Kd.at_int HT.out.r2 0 (by decide) (by have := E1.out; have := E2.out; omega)
    rw [ear] at k2
    go_upto_region 6 with (fail)
    clear d1 d2 d3 d4 d5 hl0 hx0
    go_wp2_with (first | ((with_reducible refine gate_dst (N := 52) rfl ?_); refine wpList_load_mid rfl 22 (.tmp 51) rfl g 0 rfl (ccells T) _ HRG.out Try.underlying22 rfl (by rw [ccells_length, HCL.out]; exact size22) ?_))
    go_loopg [53] 257 (fun kq v53 w' => ∃ i : Int, v53 = .int .i64 i ∧ Aside0 (0 ≤ i) ∧ Aside0 (i ≤ 256) ∧ Aside0 ((kq : Int) + i = 257) ∧ Aside0 ((T.cls.drop i.toNat).all (dfaPC T) = dfaC T) ∧ w' = w1)
    case atStart => exact ⟨0, rfl, ⟨by decide⟩, ⟨by decide⟩, ⟨by decide⟩, ⟨rfl⟩, rfl⟩
    obtain ⟨i, rfl, hi0, hi1, hk, ha, rfl⟩ := hrel
    have hkk := hk.out
    by_cases hlt : i < 256
    · have l1 : decide (i < 256) = true := decide_eq_true hlt
      have hwi : IntKind.i64.wrap (i + 1) = i + 1 := by have := hi0.out; simp only [i64_w]; unfold wrap64; omega
      have hx := HIX.out i hi0.out hlt
      have hd := drop_at T.cls (0 : Int) i hi0.out (by rw [HCL.out]; omega)
      have HLT := Aside0.mk hlt
      have HA2 := Aside0.mk (show (dfaPC T (rd T.cls i) && (T.cls.drop (i + 1).toNat).all (dfaPC T)) = dfaC T from by rw [← ha.out, hd]; rfl)
      clear hd hlt
      obtain ⟨x, hx_⟩ : ∃ x, x = rd T.cls i := ⟨_, rfl⟩
      simp only [← hx_] at hx
      rw [← hx_] at HA2
      clear hx_
      by_cases hp : x < 0
      · have m1 : decide (x < 0) = true := decide_eq_true hp
        have HP := Aside0.mk (show dfaPC T x = false from by unfold dfaPC; rw [decide_eq_false (show ¬ 0 ≤ x by omega)]; rfl)
        clear hp
        have hF : dfaB T = false := by unfold dfaB; rw [← HA2.out, HP.out]; cases dfaA T <;> cases dfaE T <;> rfl
        have HF := Aside0.mk hF
        clear hF
        go_wp2_with (fail)
        go_ret
        exact ⟨2, rfl, by rw [HF.out]; rfl, HB.out⟩
      have m1 : decide (x < 0) = false := decide_eq_false hp
      by_cases hq : (n0 : Int) ≤ x
      · have m2 : decide ((n0 : Int) ≤ x) = true := decide_eq_true hq
        have HP := Aside0.mk (show dfaPC T x = false from by unfold dfaPC; rw [← HN0.out, decide_eq_false (show ¬ x < (n0 : Int) by omega), Bool.and_false])
        clear hp hq
        have hF : dfaB T = false := by unfold dfaB; rw [← HA2.out, HP.out]; cases dfaA T <;> cases dfaE T <;> rfl
        have HF := Aside0.mk hF
        clear hF
        go_wp2_with (fail)
        go_ret
        exact ⟨2, rfl, by rw [HF.out]; rfl, HB.out⟩
      have m2 : decide ((n0 : Int) ≤ x) = false := decide_eq_false hq
      have HP := Aside0.mk (show dfaPC T x = true from by unfold dfaPC; rw [← HN0.out, decide_eq_true (show x < (n0 : Int) by omega), decide_eq_true (show 0 ≤ x by omega)]; rfl)
      clear hp hq
      go_wp2_with (fail)
      go_roundg (gk - 1)
      case measure => have := HLT.out; have := hi0.out; omega
      case rel => exact ⟨i + 1, rfl, ⟨by have := hi0.out; omega⟩, ⟨by have := HLT.out; omega⟩, ⟨by have := HLT.out; omega⟩, ⟨by rw [← HA2.out, HP.out]; rfl⟩, rfl⟩
    have l1 : decide (i < 256) = false := decide_eq_false hlt
    have HC := Aside0.mk (show dfaC T = true from by rw [← ha.out, List.drop_eq_nil_of_le (by rw [HCL.out]; omega)]; rfl)
    clear hkk hk ha hi0 hi1 hlt
    go_wp2_with (fail)
    go_loopg [67] (T.next.length + 1) (fun kq v67 w' => ∃ i : Int, v67 = .int .i64 i ∧ Aside0 (0 ≤ i) ∧ Aside0 (i ≤ (T.next.length : Int)) ∧ Aside0 ((kq : Int) + i = (T.next.length : Int) + 1) ∧ Aside0 (((T.next.zip T.rule).drop i.toNat).all (dfaRow T) = dfaD T) ∧ w' = wr)
    case atStart => exact ⟨0, rfl, ⟨by decide⟩, ⟨by omega⟩, ⟨by omega⟩, ⟨rfl⟩, rfl⟩
    obtain ⟨i, rfl, hi0, hi1, hk, ha, rfl⟩ := hrel
    have hkk := hk.out
    obtain ⟨gO, hgO⟩ : ∃ gO, gO = gk := ⟨_, rfl⟩
    rw [← hgO] at hkk
    by_cases hlt : i < (T.next.length : Int)
    · have l2 : decide (i < (T.next.length : Int)) = true := decide_eq_true hlt
      have hwi : IntKind.i64.wrap (i + 1) = i + 1 := by have := hi0.out; have := HL1.out; simp only [i64_w]; unfold wrap64; omega
      have p1 := eq_true hi0.out
      have q1 := eq_true hlt
      have q2 : (i < (T.rule.length : Int)) = True := eq_true (by rw [E2.out]; exact hlt)
      obtain ⟨ad2, A2_, c2_, ea2, hx, hl2_, hC2⟩ := at_L4 HT.out.r1 i hi0.out hlt
      obtain rfl : ad = ad2 := by rw [ea] at ea2; injection ea2
      obtain ⟨adr2, ear2, hxr⟩ := Kd.at_int HT.out.r2 i hi0.out (by rw [E2.out]; exact hlt)
      obtain rfl : adr = adr2 := by rw [ear] at ear2; injection ear2
      have hd := zip_drop T E2.out i hi0.out hlt
      have HLT := Aside0.mk hlt
      have HA2 := Aside0.mk (show (dfaRow T (rd_L4 T.next i, rd T.rule i) && ((T.next.zip T.rule).drop (i + 1).toNat).all (dfaRow T)) = dfaD T from by rw [← ha.out, hd]; rfl)
      clear hd hlt ea2 ear2 ha
      have hr256 := next_le HANY.out i hi0.out HLT.out
      generalize rd_L4 T.next i = row at hx hl2_ hC2 HA2 hr256
      have HR256 := Aside0.mk hr256
      clear hr256
      generalize rd T.rule i = ri at hxr HA2
      have HC2 := Aside0.mk hC2
      clear hC2 hl2_
      by_cases b1 : row.length = n0
      rotate_left
      · have m1 : ((row.length : Int) != (n0 : Int)) = true := bne_iff_ne.mpr (by omega)
        have HP := Aside0.mk (show dfaRow T (row, ri) = false from by unfold dfaRow; rw [← HN0.out, decide_eq_false b1]; rfl)
        clear b1
        have hF : dfaB T = false := by unfold dfaB; rw [← HA2.out, HP.out]; cases dfaA T <;> cases dfaE T <;> cases dfaC T <;> rfl
        have HF := Aside0.mk hF
        clear hF
        go_wp2_with (fail)
        go_ret
        exact ⟨2, rfl, by rw [HF.out]; rfl, HB.out⟩
      have m1 : ((row.length : Int) != (n0 : Int)) = false := bne_eq_false_iff_eq.mpr (by omega)
      have B1 := Aside0.mk b1
      clear b1
      by_cases b2 : ri < -1
      · have m2 : decide (ri < -1) = true := decide_eq_true b2
        have HP := Aside0.mk (show dfaRow T (row, ri) = false from by unfold dfaRow; rw [← HN0.out, decide_eq_true B1.out, decide_eq_false (show ¬ -1 ≤ ri by omega)]; rfl)
        clear b2
        have hF : dfaB T = false := by unfold dfaB; rw [← HA2.out, HP.out]; cases dfaA T <;> cases dfaE T <;> cases dfaC T <;> rfl
        have HF := Aside0.mk hF
        clear hF
        go_wp2_with (fail)
        go_ret
        exact ⟨2, rfl, by rw [HF.out]; rfl, HB.out⟩
      have m2 : decide (ri < -1) = false := decide_eq_false b2
      by_cases b3 : 64 ≤ ri
      · have m3 : decide (64 ≤ ri) = true := decide_eq_true b3
        have HP := Aside0.mk (show dfaRow T (row, ri) = false from by unfold dfaRow; rw [← HN0.out, decide_eq_true B1.out, decide_eq_true (show -1 ≤ ri by omega), decide_eq_false (show ¬ ri < 64 by omega)]; rfl)
        clear b2 b3
        have hF : dfaB T = false := by unfold dfaB; rw [← HA2.out, HP.out]; cases dfaA T <;> cases dfaE T <;> cases dfaC T <;> rfl
        have HF := Aside0.mk hF
        clear hF
        go_wp2_with (fail)
        go_ret
        exact ⟨2, rfl, by rw [HF.out]; rfl, HB.out⟩
      have m3 : decide (64 ≤ ri) = false := decide_eq_false b3
      have HR := Aside0.mk (show dfaRow T (row, ri) = row.all (dfaTo T) from by unfold dfaRow; rw [← HN0.out, decide_eq_true B1.out, decide_eq_true (show -1 ≤ ri by omega), decide_eq_true (show ri < 64 by omega)]; rfl)
      clear b2 b3
      have HRL := Aside0.mk (show row.length ≤ 9223372036854775806 from by have := HR256.out; omega)
      go_wp2_with (fail)
      go_loopg [94] (row.length + 1) (fun kq v94 w' => ∃ k : Int, v94 = .int .i64 k ∧ Aside0 (0 ≤ k) ∧ Aside0 (k ≤ (row.length : Int)) ∧ Aside0 ((kq : Int) + k = (row.length : Int) + 1) ∧ Aside0 ((row.drop k.toNat).all (dfaTo T) = row.all (dfaTo T)) ∧ w' = wr)
      case atStart => exact ⟨0, rfl, ⟨by decide⟩, ⟨by omega⟩, ⟨by omega⟩, ⟨rfl⟩, rfl⟩
      clear m1 m2 m3
      obtain ⟨k, rfl, hk0, hk1, hkk2, ha2, rfl⟩ := hrel
      have hkk3 := hkk2.out
      by_cases hlt : k < (row.length : Int)
      · have l3 : decide (k < (row.length : Int)) = true := decide_eq_true hlt
        have hwk : IntKind.i64.wrap (k + 1) = k + 1 := by have := hk0.out; have := HRL.out; simp only [i64_w]; unfold wrap64; omega
        have p2 := eq_true hk0.out
        have q3 := eq_true hlt
        obtain ⟨ad3, ea3, hx3⟩ := Kd.at_int HC2.out k hk0.out hlt
        subst ea3
        have hd := drop_at row (0 : Int) k hk0.out hlt
        have HLK := Aside0.mk hlt
        have HA3 := Aside0.mk (show (dfaTo T (rd row k) && (row.drop (k + 1).toNat).all (dfaTo T)) = row.all (dfaTo T) from by rw [← ha2.out, hd]; rfl)
        clear hd hlt ha2
        generalize rd row k = y at hx3 HA3
        by_cases c1 : y < -1
        · have m4 : decide (y < -1) = true := decide_eq_true c1
          have HP3 := Aside0.mk (show dfaTo T y = false from by unfold dfaTo; rw [decide_eq_false (show ¬ -1 ≤ y by omega)]; rfl)
          clear c1
          have hF : dfaB T = false := by unfold dfaB; rw [← HA2.out, HR.out, ← HA3.out, HP3.out]; cases dfaA T <;> cases dfaE T <;> cases dfaC T <;> rfl
          have HF := Aside0.mk hF
          clear hF
          go_wp2_with (fail)
          go_ret
          exact ⟨2, rfl, by rw [HF.out]; rfl, HB.out⟩
        have m4 : decide (y < -1) = false := decide_eq_false c1
        by_cases c2 : (T.next.length : Int) ≤ y
        · have m5 : decide ((T.next.length : Int) ≤ y) = true := decide_eq_true c2
          have HP3 := Aside0.mk (show dfaTo T y = false from by unfold dfaTo; rw [decide_eq_false (show ¬ y < (T.next.length : Int) by omega), Bool.and_false])
          clear c1 c2
          have hF : dfaB T = false := by unfold dfaB; rw [← HA2.out, HR.out, ← HA3.out, HP3.out]; cases dfaA T <;> cases dfaE T <;> cases dfaC T <;> rfl
          have HF := Aside0.mk hF
          clear hF
          go_wp2_with (fail)
          go_ret
          exact ⟨2, rfl, by rw [HF.out]; rfl, HB.out⟩
        have m5 : decide ((T.next.length : Int) ≤ y) = false := decide_eq_false c2
        have HP3 := Aside0.mk (show dfaTo T y = true from by unfold dfaTo; rw [decide_eq_true (show -1 ≤ y by omega), decide_eq_true (show y < (T.next.length : Int) by omega)]; rfl)
        clear c1 c2
        go_wp2_with (fail)
        go_roundg (gk - 1)
        case measure => have := HLK.out; have := hk0.out; omega
        case rel => exact ⟨k + 1, rfl, ⟨by have := hk0.out; omega⟩, ⟨by have := HLK.out; omega⟩, ⟨by have := HLK.out; omega⟩, ⟨by rw [← HA3.out, HP3.out]; rfl⟩, rfl⟩
      have l3 : decide (k < (row.length : Int)) = false := decide_eq_false hlt
      have HR2 := Aside0.mk (show dfaRow T (row, ri) = true from by rw [HR.out, ← ha2.out, List.drop_eq_nil_of_le (by omega)]; rfl)
      clear hkk3 hkk2 ha2 hk0 hk1 hlt
      go_wp2_with (fail)
      go_roundg (gO - 1)
      case measure => have := HLT.out; have := hi0.out; omega
      case rel => exact ⟨i + 1, rfl, ⟨by have := hi0.out; omega⟩, ⟨by have := HLT.out; omega⟩, ⟨by have := HLT.out; omega⟩, ⟨by rw [← HA2.out, HR2.out]; rfl⟩, rfl⟩
    have l2 : decide (i < (T.next.length : Int)) = false := decide_eq_false hlt
    have HD := Aside0.mk (show dfaD T = true from by rw [← ha.out, List.drop_eq_nil_of_le (by rw [List.length_zip, E2.out, Nat.min_self]; omega)]; rfl)
    clear hkk hk ha hi0 hi1 hlt
    go_wp2_with (fail)
    go_ret
    exact ⟨0, rfl, by unfold dfaB; rw [HA.out, HE.out, HC.out, HD.out]; rfl, HB.out⟩
  have d4 : ((T.rule.length : Int) != (T.next.length : Int)) = true := bne_iff_ne.mpr (by omega)
  have E2 := Aside0.mk e2
  clear e2
  have hF : dfaB T = false := by unfold dfaB dfaE; rw [decide_eq_false E1.out, decide_eq_true E2.out]; cases dfaA T <;> rfl
  have HF := Aside0.mk hF
  clear hF
  go_wp2_with (fail)
  go_ret
  exact ⟨2, rfl, by rw [HF.out]; rfl, HB.out⟩
end Go.Proofs.Ytkeekganabafbaa.X
end
