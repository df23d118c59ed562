-- Laid by xprint.py, a program of this session over the kit's print; checked by Lean alone.
import Derived.Test.YtpmikaoheaefiaaXx0
import Derived.Test.YtpmikaoheaefiaaXx1
import Derived.Test.YtpmikaoheaefiaaXx2
import Derived.Test.YtpmikaoheaefiaaXx3
namespace Go.Proofs.Ytpmikaoheaefiaa.X
open Go.RowKit Go.Proofs.YtpmikaoheaefiaaW.PrintWords Go.Proofs.YtpmikaoheaefiaaW.PrintLast Go.Proofs.YtpmikaoheaefiaaW.PrintMore
attribute [local go_sem] max2_int min2_int max_two min_two max_three min_three max_four min_four   -- for this text's walks alone
set_option linter.unusedVariables false
set_option linter.unusedSimpArgs false

/-! ### pack_Unpack: function 14 -/
set_option maxHeartbeats 8000000 in
set_option maxRecDepth 100000 in
theorem pack_Unpack_1.calls (k : Nat) (g : Nat) (A : Option Addr) (c : Nat) (l : List Int) (t rest : List Int) (e : Int) (w : World) (hg : w.heap[g]? = some (.cells #[.slice A l.length c] 22 (0, 0)))
    (hr : (Kd.int .u8).C w A l.length l) (hc : l.length ≤ c) (hl : 0 < l.length) (h : varnum_TakeText.f k (l.drop 1) 262144 = some (t, rest, e)) :
    Calls Try.prog 31 #[.pointer (some ⟨g, 0, none⟩)] w fun x w' => ∃ v1 v2 : Value, x = .returned (.tuple #[.agg #[.int .i64 (wrap64 (rd l 0)), v1], .bool (decide (e = 0))]) ∧ (Kd.int .u8).R 5 w' w.heap.size (fun k_ => some k_ ≠ v2.ownBlock) v1 t ∧ (Kd.int .u8).R 5 w' w.heap.size (fun _ => True) v2 rest ∧ w'.heap[g]? = some (.cells #[v2] 22 (0, 0)) ∧ w.heap.size ≤ w'.heap.size ∧ (∀ k_, k_ < w.heap.size → k_ ≠ g → w'.heap[k_]? = w.heap[k_]?) ∧ Below g w w' := by
  have hu33 := Try.underlying33
  have hu22 := Try.underlying22
  have HR0 := Aside0.mk hr
  have HC0 := Aside0.mk hc
  have HB := Aside0.mk (Below.refl w.heap.size w)
  have A1 := Aside0.mk h
  clear hr h
  have hcell : w.cell? ⟨g, 0, none⟩ = some (.slice A l.length c) := (blk_cell hg 0).trans rfl
  obtain ⟨i01, hi01, _, hsz1, _⟩ := info_parts info5
  obtain ⟨Aq, hcut1, hA1, hC1⟩ := print_drop_of (P := Try.prog) (Value.int .u8) 0 22 5 .i64 Try.underlying22 hi01 hsz1 A c l 1 (by omega) (by omega) HC0.out
  have HR1 := Aside0.mk (Kd.C_of_reads (h1 := fun _ => rfl) (hA1 _ (Kd.reads_of_C HR0.out)))
  have HC1 := Aside0.mk hC1
  (try simp only [Int.reduceToNat] at hcut1 HR1 HC1)
  clear hA1 hC1 hi01 hsz1
  obtain ⟨ad0, rfl, hx0⟩ : ∃ ad, A = some ad ∧ w.cell? ad = some (.int .u8 (rd l 0)) := by
    obtain ⟨ad, e1, hcx⟩ := (Kd.reads_of_C (enc := Value.int .u8) (d := (0 : Int)) (h1 := fun _ => rfl) HR0.out).2.2 hl
    have h0 := hcx 0 hl
    rw [show ad.add 0 = ad by simp [Addr.add]] at h0
    refine ⟨ad, e1, h0.trans ?_⟩
    rfl
  have hlen1 : Aside0 (l.length - 1 = (l.drop 1).length) := ⟨by simp⟩
  have p0 : decide (0 < (l.length : Int)) = true := decide_eq_true (by omega)
  have hg0 := (Array.getElem?_eq_some_iff.1 hg).1
  have hneg : ¬ g = w.heap.size := by omega
  have hneg' : ¬ w.heap.size = g := by omega
  go_enter Try.func31, Try.ntmps31
  go_wp2_with (first | ((with_reducible refine gate_dst (N := 1) rfl ?_); refine box_event ?hg (N := 1) ?hd (cs := #[.int .i64 0, .slice none 0 0]) (t := 33) ?hr ?_; (case hd => rfl); (case hg => rfl); (case hr => first | (go_simp; done) | (go_simp; rfl)); intro gs hgs w2 hbox hb; subst hgs; have hgw := (hb.block g (Array.getElem?_eq_some_iff.1 hg).1).trans hg; have hcellw : w2.cell? ⟨g, 0, none⟩ = some (.slice (some ad0) l.length c) := (blk_cell hgw 0).trans rfl; have HB2 := Aside0.mk hb) | (go_at_call 32; (rw [hlen1.out]); (with_reducible refine (varnum_TakeText.calls k _ _ (l.drop 1) 262144 t rest e _ ?side1 ?side2 A1.out).mono ?_); (case side1 => exact Kd.C_below HR1.out HB2.out); (case side2 => exact HC1.out); rintro x w3 ⟨v1, v2, rfl, ho1, ho2, hb3⟩; obtain ⟨Ao1, co1, eo1⟩ := Kd.R_slice ho1; subst eo1; obtain ⟨Ao2, co2, eo2⟩ := Kd.R_slice ho2; subst eo2; have HO1 := Aside0.mk ho1; have HO2 := Aside0.mk ho2; have HB3 := Aside0.mk hb3; have hgw3 := (hb3.block g (Nat.lt_of_lt_of_le hg0 HB2.out.size)).trans hgw; have hcellw3 : w3.cell? ⟨g, 0, none⟩ = some (.slice (some ad0) l.length c) := (blk_cell hgw3 0).trans rfl; have hfz3 := blk_frozen hgw3 0; have hx3 : w3.cell? ad0 = some (.int .u8 (rd l 0)) := (hb3.cell (World.block_lt_of_cell? w2 _ ((HB2.out.cell (World.block_lt_of_cell? w _ hx0)).trans hx0))).trans ((HB2.out.cell (World.block_lt_of_cell? w _ hx0)).trans hx0); have hbox3 := (hb3.block w.heap.size (Array.getElem?_eq_some_iff.1 hbox).1).trans hbox; have hc3_0 : w3.cell? ⟨w.heap.size, 0, none⟩ = some (.int .i64 0) := (blk_cell hbox3 0).trans rfl; have hc3_1 : w3.cell? ⟨w.heap.size, 1, none⟩ = some (.slice none 0 0) := (blk_cell hbox3 1).trans rfl; have hs3_0 := blk_frozen hbox3 0; have hs3_1 := blk_frozen hbox3 1))
  have hb1 := blk_put (cs := #[.int .i64 0, .slice none 0 0]) hbox3 0 (.int .i64 (wrap64 (rd l 0))) rfl
  have hb2 := blk_put (cs := #[.int .i64 (wrap64 (rd l 0)), .slice none 0 0]) hb1 1 (.slice Ao1 t.length co1) rfl
  have hg1 := (Below.heap_setCell w3 ⟨w.heap.size, 0, none⟩ (.int .i64 (wrap64 (rd l 0))) g hneg).trans hgw3
  have hg2 := (Below.heap_setCell _ ⟨w.heap.size, 1, none⟩ (.slice Ao1 t.length co1) g hneg).trans hg1
  have hg3 := blk_put (cs := #[.slice (some ad0) l.length c]) hg2 0 (.slice Ao2 rest.length co2) rfl
  have hb3' := (Below.heap_setCell _ ⟨g, 0, none⟩ (.slice Ao2 rest.length co2) w.heap.size hneg').trans hb2
  have hb4 := blk_put (cs := #[.int .i64 (wrap64 (rd l 0)), .slice Ao1 t.length co1]) hb3' 0 (.int .i64 (wrap64 (rd l 0))) rfl
  have hb5 := blk_put (cs := #[.int .i64 (wrap64 (rd l 0)), .slice Ao1 t.length co1]) hb4 1 (.slice Ao1 t.length co1) rfl
  have hg4 := (Below.heap_setCell _ ⟨w.heap.size, 0, none⟩ (.int .i64 (wrap64 (rd l 0))) g hneg).trans hg3
  have hg5 := (Below.heap_setCell _ ⟨w.heap.size, 1, none⟩ (.slice Ao1 t.length co1) g hneg).trans hg4
  refine bodyPost_ret (results_list (rs := [.cell 1 33, .tmp 2]) rfl (by simp) (.cell w.heap.size 33 _ (0, 0) _ rfl hb5 hu33 rfl (by kernel_rfl) (.tmp .nil))) rfl ?_
  have hw2 := (Array.getElem?_eq_some_iff.1 hbox).1
  have hfar : ∀ k_, k_ ≠ g → k_ ≠ w.heap.size → (((((w3.setCell ⟨w.heap.size, 0, none⟩ (.int .i64 (wrap64 (rd l 0)))).setCell ⟨w.heap.size, 1, none⟩ (.slice Ao1 t.length co1)).setCell ⟨g, 0, none⟩ (.slice Ao2 rest.length co2)).setCell ⟨w.heap.size, 0, none⟩ (.int .i64 (wrap64 (rd l 0)))).setCell ⟨w.heap.size, 1, none⟩ (.slice Ao1 t.length co1)).heap[k_]? = w3.heap[k_]? := fun k_ h1 h2 =>
    (Below.heap_setCell _ ⟨w.heap.size, 1, none⟩ _ k_ h2).trans ((Below.heap_setCell _ ⟨w.heap.size, 0, none⟩ _ k_ h2).trans ((Below.heap_setCell _ ⟨g, 0, none⟩ _ k_ h1).trans ((Below.heap_setCell _ ⟨w.heap.size, 1, none⟩ _ k_ h2).trans (Below.heap_setCell _ ⟨w.heap.size, 0, none⟩ _ k_ h2))))
  refine ⟨.slice Ao1 t.length co1, .slice Ao2 rest.length co2, by first | rfl | (simp; done), ?_, ?_, hg5, Nat.le_of_lt (Array.getElem?_eq_some_iff.1 hb5).1, fun k_ h1 h2 => (hfar k_ h2 (by omega)).trans ((HB3.out.block k_ (by omega)).trans (HB2.out.block k_ h1)), ((((((HB2.out.mono (Nat.le_of_lt hg0)).trans (HB3.out.mono (Nat.le_of_lt (Nat.lt_of_lt_of_le hg0 HB2.out.size)))).setCell (Nat.le_of_lt hg0) _).setCell (Nat.le_of_lt hg0) _).setCell (Nat.le_refl g) _).setCell (Nat.le_of_lt hg0) _).setCell (Nat.le_of_lt hg0) _⟩
  · exact Kd.R_lower (Kd.R_mono (Kd.R_move (Kd.R_bound HO1.out) (fun k_ hk => hfar k_ (by have := hk.2.1; omega) (by have := hk.2.1; omega))) (fun _ hk => hk.1)) (by omega)
  · exact Kd.R_lower (Kd.R_mono (Kd.R_move (Kd.R_bound HO2.out) (fun k_ hk => hfar k_ (by have := hk.2.1; omega) (by have := hk.2.1; omega))) (fun _ hk => trivial)) (by omega)
def pack_Unpack.l0 : Nat → List Int → List Int → Int → List S33 → Option (Int × (List S33) × Int)
  | 0, _, _, _, _ => none
  | k + 1, x0, x6, x8, x3 => if 0 < x6.length then ((varnum_TakeText.f k (x6.drop 1) 262144).bind fun b => (if b.2.2 = 0 then (if (wrap64 (rd x6 0)) ≤ x8 then (some (0, ([] : List S33), 4)) else (if x3.length < 4398046511104 then (pack_Unpack.l0 k x0 b.2.1 (wrap64 (rd x6 0)) (x3 ++ [(⟨wrap64 (rd x6 0), b.1⟩ : S33)])) else none)) else (some (0, ([] : List S33), 4)))) else (if 6 < (x0.length : Int) then (some (wrap64 (rd x0 6), x3, 0)) else none)
theorem pack_Unpack.mono_l : ∀ k, (∀ y0 y1 y2 y3, LeO (pack_Unpack.l0 k y0 y1 y2 y3) (pack_Unpack.l0 (k + 1) y0 y1 y2 y3))
  | 0 => fun _ _ _ _ r h => by simp [pack_Unpack.l0] at h
  | k + 1 => by
    have ih0 := pack_Unpack.mono_l k
    · intro y0 y1 y2 y3
      unfold pack_Unpack.l0
      repeat' first
      | (with_reducible exact ih0 _ _ _ _)
      | (with_reducible exact varnum_TakeText.mono _ _ _)
      | (with_reducible exact LeO.refl _)
      | (with_reducible exact LeO.none _)
      | (with_reducible refine LeO.ite ?_ ?_)
      | (with_reducible refine LeO.bind ?_ (fun _ => ?_))
      | exact ih0 _ _ _ _
      | exact varnum_TakeText.mono _ _ _
      | refine LeO.ite ?_ ?_
      | refine LeO.bind ?_ (fun _ => ?_)
def pack_Unpack.f (k : Nat) (l0 : List Int) : Option (Int × (List (S33)) × Int) := (pack_Size.f k l0).bind fun bt112 => (if bt112.2 = 0 then (if (l0.length : Int) < bt112.1 then (some (0, ([] : List (S33)), 3)) else (if (l0.length : Int) > bt112.1 then (some (0, ([] : List (S33)), 4)) else (if 0 ≤ (wrap64 (bt112.1 - 4)) then (if (wrap64 (bt112.1 - 4)) ≤ (l0.length : Int) then ((crc_Of.f k (l0.take ((wrap64 (bt112.1 - 4)) : Int).toNat)).bind fun t116 => ((pack_four.f t116).bind fun t117 => ((slices_Equal_byte_byte.f k (l0.drop ((wrap64 (bt112.1 - 4)) : Int).toNat) t117).bind fun t120 => (if t120 = true then (if 7 ≤ (wrap64 (bt112.1 - 4)) then (pack_Unpack.l0 k l0 ((l0.take ((wrap64 (bt112.1 - 4)) : Int).toNat).drop 7) 0 ([] : List (S33))) else (none)) else (some (0, ([] : List (S33)), 30)))))) else (none)) else (none)))) else (some (0, ([] : List (S33)), bt112.2)))
theorem pack_Unpack.mono : ∀ a0 k, LeO (pack_Unpack.f k a0) (pack_Unpack.f (k + 1) a0) := by
  intro a0 k
  unfold pack_Unpack.f
  repeat' first
      | (with_reducible exact pack_Unpack.mono_l _ _ _ _ _)
      | (with_reducible exact crc_Of.mono _ _)
      | (with_reducible exact pack_Size.mono _ _)
      | (with_reducible exact slices_Equal_byte_byte.mono _ _ _)
      | (with_reducible exact LeO.refl _)
      | (with_reducible exact LeO.none _)
      | (with_reducible refine LeO.ite ?_ ?_)
      | (with_reducible refine LeO.bind ?_ (fun _ => ?_))
      | exact crc_Of.mono _ _
      | exact pack_Size.mono _ _
      | exact slices_Equal_byte_byte.mono _ _ _
      | exact LeO.none _
      | refine LeO.ite ?_ ?_
      | refine LeO.bind ?_ (fun _ => ?_)
def pack_Unpack.T8 : Bool × List (List Nat × List Nat) := (true, [([], []), ([], []), ([1], [1]), ([0, 2], [0, 2]), ([], []), ([], []), ([5], [5]), ([4, 6], [4, 6]), ([7], [7]), ([8, 8], [8]), ([3, 9, 9], [3, 9]), ([10], [10]), ([11, 10], [11])])
def pack_Unpack.B8 : List Nat := [0, 0, 2, 7, 0, 0, 32, 112, 240, 496, 1023, 2047, 4095]
theorem pack_Unpack.tab8 : rtab .any (opsOf Try.f14 8) = pack_Unpack.T8 := by kernel_rfl
theorem pack_Unpack.bits8 : waitsOk pack_Unpack.T8.2 pack_Unpack.B8 = true := by kernel_rfl
set_option maxHeartbeats 8000000 in
set_option maxRecDepth 100000 in
theorem pack_Unpack.calls (k : Nat) (A0 : Option Addr) (c0 : Nat) (l0 : List Int) (r1 : Int) (r2 : List (S33)) (r3 : Int) (w : World) (hr0 : Kd.C (Kd.int .u8) w A0 l0.length l0) (hc0 : l0.length ≤ c0) (h : pack_Unpack.f k l0 = some (r1, r2, r3)) :
    Calls Try.prog 14 #[.slice A0 l0.length c0] w fun e w' => ∃ v1_ : Value, e = .returned (.tuple #[.int .i64 r1, v1_, .int .i64 r3]) ∧ Kd.S k33 33 w' w.heap.size (fun _ => True) v1_ r2 ∧ Below w.heap.size w w' := by
  have HR0 := Aside0.mk hr0
  have HC0 := Aside0.mk hc0
  clear hr0 hc0
  have HB := Aside0.mk (Below.refl w.heap.size w)
  have H : ((pack_Size.f k l0).bind fun bt112 => (if bt112.2 = 0 then (if (l0.length : Int) < bt112.1 then (some (0, ([] : List (S33)), 3)) else (if (l0.length : Int) > bt112.1 then (some (0, ([] : List (S33)), 4)) else (if 0 ≤ (wrap64 (bt112.1 - 4)) then (if (wrap64 (bt112.1 - 4)) ≤ (l0.length : Int) then ((crc_Of.f k (l0.take ((wrap64 (bt112.1 - 4)) : Int).toNat)).bind fun t116 => ((pack_four.f t116).bind fun t117 => ((slices_Equal_byte_byte.f k (l0.drop ((wrap64 (bt112.1 - 4)) : Int).toNat) t117).bind fun t120 => (if t120 = true then (if 7 ≤ (wrap64 (bt112.1 - 4)) then (pack_Unpack.l0 k l0 ((l0.take ((wrap64 (bt112.1 - 4)) : Int).toNat).drop 7) 0 ([] : List (S33))) else (none)) else (some (0, ([] : List (S33)), 30)))))) else (none)) else (none)))) else (some (0, ([] : List (S33)), bt112.2)))) = some (r1, r2, r3) := h
  clear h
  replace H := Option.bind_eq_some_iff.mp H
  obtain ⟨⟨t112, t113⟩, A20, H⟩ := H
  replace H : (if t113 = 0 then (if (l0.length : Int) < t112 then (some (0, ([] : List (S33)), 3)) else (if (l0.length : Int) > t112 then (some (0, ([] : List (S33)), 4)) else (if 0 ≤ (wrap64 (t112 - 4)) then (if (wrap64 (t112 - 4)) ≤ (l0.length : Int) then ((crc_Of.f k (l0.take ((wrap64 (t112 - 4)) : Int).toNat)).bind fun t116 => ((pack_four.f t116).bind fun t117 => ((slices_Equal_byte_byte.f k (l0.drop ((wrap64 (t112 - 4)) : Int).toNat) t117).bind fun t120 => (if t120 = true then (if 7 ≤ (wrap64 (t112 - 4)) then (pack_Unpack.l0 k l0 ((l0.take ((wrap64 (t112 - 4)) : Int).toNat).drop 7) 0 ([] : List (S33))) else (none)) else (some (0, ([] : List (S33)), 30)))))) else (none)) else (none)))) else (some (0, ([] : List (S33)), t113))) = some (r1, r2, r3) := H
  have A2 := Aside0.mk A20
  clear A20
  by_cases c3 : t113 = 0
  · rw [if_pos c3] at H
    have c3b0 : (t113 == 0) = true := beq_iff_eq.mpr c3
    have c3b1 : (t113 != 0) = false := bne_eq_false_iff_eq.mpr c3
    clear c3
    by_cases c4 : (l0.length : Int) < t112
    · rw [if_pos c4] at H
      have c4b0 : decide ((l0.length : Int) < t112) = true := decide_eq_true c4
      clear c4
      simp only [Option.some.injEq, Prod.mk.injEq] at H
      obtain ⟨rfl, rfl, rfl⟩ := H
      go_enter Try.func14, Try.ntmps14
      go_wp2_with (first | ((with_reducible refine gate_callee (f := 12) rfl ?_); refine goesL_ (some 13) rfl rfl Try.func12 (by kernel_rfl) rfl #[.slice A0 l0.length c0] rfl (by (try simp only [List.map_toArray, List.map_cons, List.map_nil]); first | done | rfl | (simp only [List.length_drop, List.length_take]; rfl)) ?_; (with_reducible refine (pack_Size.calls k _ _ l0 t112 t113 _ ?side1 ?side2 A2.out).mono ?_); (case side1 => repeat (first | exact HR0.out | (with_reducible refine Kd.C_alloc ?_ _) | (with_reducible refine Kd.C_drewN ?_ _) | (with_reducible refine Kd.C_drew ?_))); (case side2 => exact HC0.out); rintro e w5 ⟨rfl, hb⟩; refine ⟨_, rfl, ?_⟩; have n0_ := Aside0.mk (below_step (by repeat (first | (with_reducible first | exact HB.out | apply below_alloc | apply pw_below_drewN | apply below_drew1) | exact HB.out)) hb); clear HB; have HB := n0_; clear n0_; (try clear hb); (try clear hb2); (try clear hk); (try clear hi)))
      go_ret3
      exact ⟨_, by first | rfl | (simp [errW_none, errW_some] <;> rfl) | (simp [*, errW_none, errW_some] <;> rfl), by first | exact Kd.S_nil _ _ _ _ _ | exact Kd.N_nil _ _ _ _ _ | exact Kd.V_nil _ _ _ _ _ | exact Kd.Q_nil _ _ _ _ _ | exact Kd.R_nil _ _ _ _ _, by repeat (first | (with_reducible first | exact HB.out | apply below_alloc | apply pw_below_drewN | apply below_drew1) | exact HB.out)⟩
    · rw [if_neg c4] at H
      have c4b0 : decide ((l0.length : Int) < t112) = false := decide_eq_false c4
      clear c4
      by_cases c6 : (l0.length : Int) > t112
      · rw [if_pos c6] at H
        have c6b0 : decide (t112 < (l0.length : Int)) = true := decide_eq_true c6
        clear c6
        simp only [Option.some.injEq, Prod.mk.injEq] at H
        obtain ⟨rfl, rfl, rfl⟩ := H
        go_enter Try.func14, Try.ntmps14
        go_wp2_with (first | ((with_reducible refine gate_callee (f := 12) rfl ?_); refine goesL_ (some 13) rfl rfl Try.func12 (by kernel_rfl) rfl #[.slice A0 l0.length c0] rfl (by (try simp only [List.map_toArray, List.map_cons, List.map_nil]); first | done | rfl | (simp only [List.length_drop, List.length_take]; rfl)) ?_; (with_reducible refine (pack_Size.calls k _ _ l0 t112 t113 _ ?side1 ?side2 A2.out).mono ?_); (case side1 => repeat (first | exact HR0.out | (with_reducible refine Kd.C_alloc ?_ _) | (with_reducible refine Kd.C_drewN ?_ _) | (with_reducible refine Kd.C_drew ?_))); (case side2 => exact HC0.out); rintro e w7 ⟨rfl, hb⟩; refine ⟨_, rfl, ?_⟩; have n0_ := Aside0.mk (below_step (by repeat (first | (with_reducible first | exact HB.out | apply below_alloc | apply pw_below_drewN | apply below_drew1) | exact HB.out)) hb); clear HB; have HB := n0_; clear n0_; (try clear hb); (try clear hb2); (try clear hk); (try clear hi)))
        go_ret3
        exact ⟨_, by first | rfl | (simp [errW_none, errW_some] <;> rfl) | (simp [*, errW_none, errW_some] <;> rfl), by first | exact Kd.S_nil _ _ _ _ _ | exact Kd.N_nil _ _ _ _ _ | exact Kd.V_nil _ _ _ _ _ | exact Kd.Q_nil _ _ _ _ _ | exact Kd.R_nil _ _ _ _ _, by repeat (first | (with_reducible first | exact HB.out | apply below_alloc | apply pw_below_drewN | apply below_drew1) | exact HB.out)⟩
      · rw [if_neg c6] at H
        have c6b0 : decide (t112 < (l0.length : Int)) = false := decide_eq_false c6
        clear c6
        obtain ⟨ji8, hji8⟩ : ∃ j_ : Int, (wrap64 (t112 - 4)) = j_ := ⟨_, rfl⟩
        replace H : (if 0 ≤ (ji8) then (if (ji8) ≤ (l0.length : Int) then ((crc_Of.f k (l0.take ((ji8) : Int).toNat)).bind fun t116 => ((pack_four.f t116).bind fun t117 => ((slices_Equal_byte_byte.f k (l0.drop ((ji8) : Int).toNat) t117).bind fun t120 => (if t120 = true then (if 7 ≤ (ji8) then (pack_Unpack.l0 k l0 ((l0.take ((ji8) : Int).toNat).drop 7) 0 ([] : List (S33))) else (none)) else (some (0, ([] : List (S33)), 30)))))) else (none)) else (none)) = some (r1, r2, r3) := by first | (rw [hji8] at H; exact H) | (simp only [hji8] at H ⊢; exact H)
        (try rw [hji8] at A2)
        have hji8w : (IntKind.i64.wrap (t112 - 4)) = ji8 := (i64_w _).trans hji8
        by_cases c9 : 0 ≤ (ji8)
        · rw [if_pos c9] at H
          have c9b0 := eq_true c9
          have c9b1 : decide (0 ≤ (ji8)) = true := decide_eq_true c9
          clear c9
          by_cases c10 : (ji8) ≤ (l0.length : Int)
          · rw [if_pos c10] at H
            have c10b0 := eq_true c10
            have c10b1 : decide ((ji8) ≤ (l0.length : Int)) = true := decide_eq_true c10
            clear c10
            have c11b0 := eq_true (of_decide_eq_true (by first | (with_reducible assumption) | assumption) : 0 ≤ (ji8))
            have c12b0 := eq_true (of_decide_eq_true (by first | (with_reducible assumption) | assumption) : (ji8) ≤ (l0.length : Int))
            replace H := Option.bind_eq_some_iff.mp H
            obtain ⟨t116, A130, H⟩ := H
            replace H : ((pack_four.f t116).bind fun t117 => ((slices_Equal_byte_byte.f k (l0.drop ((ji8) : Int).toNat) t117).bind fun t120 => (if t120 = true then (if 7 ≤ (ji8) then (pack_Unpack.l0 k l0 ((l0.take ((ji8) : Int).toNat).drop 7) 0 ([] : List (S33))) else (none)) else (some (0, ([] : List (S33)), 30))))) = some (r1, r2, r3) := H
            have A13 := Aside0.mk A130
            clear A130
            replace H := Option.bind_eq_some_iff.mp H
            obtain ⟨t117, A140, H⟩ := H
            replace H : ((slices_Equal_byte_byte.f k (l0.drop ((ji8) : Int).toNat) t117).bind fun t120 => (if t120 = true then (if 7 ≤ (ji8) then (pack_Unpack.l0 k l0 ((l0.take ((ji8) : Int).toNat).drop 7) 0 ([] : List (S33))) else (none)) else (some (0, ([] : List (S33)), 30)))) = some (r1, r2, r3) := H
            have A14 := Aside0.mk A140
            clear A140
            replace H := Option.bind_eq_some_iff.mp H
            obtain ⟨t120, A150, H⟩ := H
            replace H : (if t120 = true then (if 7 ≤ (ji8) then (pack_Unpack.l0 k l0 ((l0.take ((ji8) : Int).toNat).drop 7) 0 ([] : List (S33))) else (none)) else (some (0, ([] : List (S33)), 30))) = some (r1, r2, r3) := H
            have A15 := Aside0.mk A150
            clear A150
            by_cases c16 : t120 = true
            · subst c16
              have H1 : (if 7 ≤ (ji8) then (pack_Unpack.l0 k l0 ((l0.take ((ji8) : Int).toNat).drop 7) 0 ([] : List (S33))) else (none)) = some (r1, r2, r3) := by rw [if_pos rfl] at H; exact H
              clear H
              have H := H1
              clear H1
              by_cases c17 : 7 ≤ (ji8)
              rotate_left
              · rw [if_neg c17] at H
                exact absurd H (by simp)
              rw [if_pos c17] at H
              have H' := Aside0.mk H
              clear H
              go_enter Try.func14, Try.ntmps14
              try go_wp2_with (first | ((with_reducible refine gate_callee (f := 12) rfl ?_); refine goesL_ (some 13) rfl rfl Try.func12 (by kernel_rfl) rfl #[.slice A0 l0.length c0] rfl (by (try simp only [List.map_toArray, List.map_cons, List.map_nil]); first | done | rfl | (simp only [List.length_drop, List.length_take]; rfl)) ?_; (with_reducible refine (pack_Size.calls k _ _ l0 t112 t113 _ ?side1 ?side2 A2.out).mono ?_); (case side1 => repeat (first | exact HR0.out | (with_reducible refine Kd.C_alloc ?_ _) | (with_reducible refine Kd.C_drewN ?_ _) | (with_reducible refine Kd.C_drew ?_))); (case side2 => exact HC0.out); rintro e w17 ⟨rfl, hb⟩; refine ⟨_, rfl, ?_⟩; have n0_ := Aside0.mk (below_step (by repeat (first | (with_reducible first | exact HB.out | apply below_alloc | apply pw_below_drewN | apply below_drew1) | exact HB.out)) hb); clear HB; have HB := n0_; clear n0_; (try clear hb); (try clear hb2); (try clear hk); (try clear hi)))
              have n0_ := Aside0.mk (below_drew1 HB.out)
              clear HB
              have HB := n0_
              clear n0_
              obtain ⟨i019, hi019, _, hsz19, _⟩ := info_parts info5
              obtain ⟨A19, hcut19, hA19, hC19⟩ := print_drop_of (P := Try.prog) (Value.int .u8) 0 22 5 .i64 Try.underlying22 hi019 hsz19 A0 c0 l0 (ji8) (of_decide_eq_true (by first | (with_reducible assumption) | assumption)) (of_decide_eq_true (by first | (with_reducible assumption) | assumption)) HC0.out
              have HR114 := Aside0.mk (Kd.C_of_reads (h1 := fun _ => rfl) (hA19 _ (Kd.reads_of_C HR0.out)))
              have HC114 := Aside0.mk hC19
              clear hA19 hC19 hi019 hsz19
              obtain ⟨i020, hi020, _, hsz20, _⟩ := info_parts info5
              obtain ⟨hcut20, hA20, hC20⟩ := print_take_of (P := Try.prog) (Value.int .u8) 0 22 5 .i64 Try.underlying22 hi020 hsz20 A0 c0 l0 (ji8) (of_decide_eq_true (by first | (with_reducible assumption) | assumption)) (of_decide_eq_true (by first | (with_reducible assumption) | assumption)) HC0.out
              have HR115 := Aside0.mk (Kd.C_of_reads (h1 := fun _ => rfl) (hA20 _ (Kd.reads_of_C HR0.out)))
              have HC115 := Aside0.mk hC20
              clear hA20 hC20 hi020 hsz20
              refine start_ (n := 13) (S := fun w' => True) (ds := []) #[false, false, false, false, false, false, false, false, false, false, false, false, false] (by kernel_rfl) rfl rfl trivial (fun hHeld => ?_); refine with_tabW pack_Unpack.tab8 pack_Unpack.bits8 (fun HT_ HW_ => ?_)
              generalize w17.drew = w18 at HB HR114 HR115 hHeld ⊢
              refine pure_ (i := 0) (N := some 31) (v := ?_) (a' := ?_) #[true, false, false, false, false, false, false, false, false, false, false, false, false] rfl rfl (any_of HT_.out (by kernel_rfl)) (fun _ _ _ h => h) (Or.inl ⟨by rfl, ?_⟩) ?_ ?_
              rotate_left
              · intro w'
                go_simp
                with_reducible rfl
              rotate_left
              · simp only [Act.put, List.setIfInBounds_toArray, List.set_cons_zero, List.set_cons_succ, i64_w, i32_w]
                rfl
              refine pure_ (i := 1) (N := some 32) (v := ?_) (a' := ?_) #[true, true, false, false, false, false, false, false, false, false, false, false, false] rfl rfl (any_of HT_.out (by kernel_rfl)) (fun _ _ _ h => h) (Or.inl ⟨by rfl, ?_⟩) ?_ ?_
              rotate_left
              · intro w'
                go_simp
                with_reducible rfl
              rotate_left
              · simp only [Act.put, List.setIfInBounds_toArray, List.set_cons_zero, List.set_cons_succ, i64_w, i32_w]
                rfl
              refine pure_ (i := 2) (N := some 33) (v := ?_) (a' := ?_) #[true, true, true, false, false, false, false, false, false, false, false, false, false] rfl rfl (any_of HT_.out (by kernel_rfl)) (fun _ _ _ h => h) (Or.inl ⟨by rfl, ?_⟩) ?_ ?_
              rotate_left
              · intro w'
                go_simp
                with_reducible rfl
              rotate_left
              · simp only [Act.put, List.setIfInBounds_toArray, List.set_cons_zero, List.set_cons_succ, i64_w, i32_w]
                rfl
              refine pure_ (i := 3) (N := some 34) (v := ?_) (a' := ?_) #[true, true, true, true, false, false, false, false, false, false, false, false, false] rfl rfl (any_of HT_.out (by kernel_rfl)) (fun _ _ _ h => h) (Or.inl ⟨by rfl, ?_⟩) ?_ ?_
              rotate_left
              · intro w'
                go_simp
                with_reducible rfl
              rotate_left
              · simp only [Act.put, List.setIfInBounds_toArray, List.set_cons_zero, List.set_cons_succ, i64_w, i32_w]
                rfl
              refine pure_ (i := 4) (N := some 35) (v := ?_) (a' := ?_) #[true, true, true, true, true, false, false, false, false, false, false, false, false] rfl rfl (any_of HT_.out (by kernel_rfl)) (fun _ _ _ h => h) (Or.inl ⟨by rfl, ?_⟩) ?_ ?_
              rotate_left
              · intro w'
                go_simp
                with_reducible rfl
              rotate_left
              · simp only [Act.put, List.setIfInBounds_toArray, List.set_cons_zero, List.set_cons_succ, i64_w, i32_w]
                rfl
              refine pure_ (i := 5) (N := some 36) (v := ?_) (a' := ?_) #[true, true, true, true, true, true, false, false, false, false, false, false, false] rfl rfl (any_of HT_.out (by kernel_rfl)) (fun _ _ _ h => h) (Or.inl ⟨by rfl, ?_⟩) ?_ ?_
              rotate_left
              · intro w'
                go_simp
                with_reducible rfl
              rotate_left
              · simp only [Act.put, List.setIfInBounds_toArray, List.set_cons_zero, List.set_cons_succ, i64_w, i32_w]
                rfl
              refine pure_ (i := 6) (N := some 37) (v := ?_) (a' := ?_) #[true, true, true, true, true, true, true, false, false, false, false, false, false] rfl rfl (any_of HT_.out (by kernel_rfl)) (fun _ _ _ h => h) (Or.inl ⟨by rfl, ?_⟩) ?_ ?_
              rotate_left
              · intro w'
                go_simp
                with_reducible rfl
              rotate_left
              · simp only [Act.put, List.setIfInBounds_toArray, List.set_cons_zero, List.set_cons_succ, i64_w, i32_w]
                rfl
              refine pure_ (i := 7) (N := some 38) (v := ?_) (a' := ?_) #[true, true, true, true, true, true, true, true, false, false, false, false, false] rfl rfl (any_of HT_.out (by kernel_rfl)) (fun _ _ _ h => h) (Or.inl ⟨by rfl, ?_⟩) ?_ ?_
              rotate_left
              · intro w'
                go_simp
                with_reducible rfl
              rotate_left
              · simp only [Act.put, List.setIfInBounds_toArray, List.set_cons_zero, List.set_cons_succ, i64_w, i32_w]
                rfl
              refine one_ (i := 8) (N := some 39) #[true, true, true, true, true, true, true, true, true, false, false, false, false] rfl rfl (one_of HT_.out (by kernel_rfl)) (by decide) (fun K hK => ?_)
              refine goes_ Try.func30 (by kernel_rfl) rfl #[.slice A0 (l0.take ((ji8) : Int).toNat).length c0] (by rfl) rfl rfl (by (try simp only [List.map_toArray, List.map_cons, List.map_nil]); first | done | (rw [show (l0.take ((ji8) : Int).toNat).length = (ji8).toNat from (by rw [List.length_take]; have h_ : ((ji8) : Int) ≤ (l0.length : Int) := (by first | exact of_decide_eq_true (by first | (with_reducible assumption) | assumption) | (have h2_ := hji8_; split at h2_ <;> omega)); omega)] <;> rfl) | (simp only [hji8]; rfl) | rfl | (simp only [List.length_drop, List.length_take]; rfl)) ?_
              with_reducible refine (crc_Of.calls k _ _ (l0.take ((ji8) : Int).toNat) t116 _ ?side1 ?side2 A13.out).mono ?_
              (case side1 => repeat (first | exact (Kd.C_below HR115.out HB.out) | exact HR115.out | (with_reducible refine Kd.C_alloc ?_ _) | (with_reducible refine Kd.C_drewN ?_ _) | (with_reducible refine Kd.C_drew ?_)))
              (case side2 => exact HC115.out)
              rintro e w21 ⟨rfl, hb⟩
              refine ⟨_, rfl, ?_⟩
              have n0_ := Aside0.mk (below_step (by repeat (first | (with_reducible first | exact HB.out | apply below_alloc | apply pw_below_drewN | apply below_drew1) | exact HB.out)) hb)
              clear HB
              have HB := n0_
              clear n0_
              (try clear hb)
              (try clear hb2)
              (try clear hk)
              (try clear hi)
              refine hK.out _ _ trivial (fun hHeld => ?_)
              clear hK K
              refine norm_ (a' := ?_) ?_ ?_
              rotate_left
              · show Act.put _ (some 39) _ = _
                simp only [Act.put, List.setIfInBounds_toArray, List.set_cons_zero, List.set_cons_succ, i64_w, i32_w]
                rfl
              refine one_ (i := 9) (N := some 40) #[true, true, true, true, true, true, true, true, true, true, false, false, false] rfl rfl (one_of HT_.out (by kernel_rfl)) (by decide) (fun K hK => ?_)
              refine goes_ Try.func29 (by kernel_rfl) rfl #[.int .u32 t116] (by rfl) rfl rfl (by (try simp only [List.map_toArray, List.map_cons, List.map_nil]); first | done | rfl | (simp only [List.length_drop, List.length_take]; rfl)) ?_
              with_reducible refine (pack_four.calls t116 t117 _ A14.out).mono ?_
              rintro e w22 ⟨v118, rfl, ho0, hb⟩
              refine ⟨_, rfl, ?_⟩
              have n0_ := Aside0.mk (Kd.R_lower ho0 (below_size (by repeat (first | (with_reducible first | exact HB.out | apply below_alloc | apply pw_below_drewN | apply below_drew1) | exact HB.out))))
              have n1_ := Aside0.mk (below_step (by repeat (first | (with_reducible first | exact HB.out | apply below_alloc | apply pw_below_drewN | apply below_drew1) | exact HB.out)) hb)
              clear HB
              have HO119 := n0_
              have HB := n1_
              clear n0_ n1_
              (try clear hb)
              (try clear hb2)
              (try clear hk)
              (try clear hi)
              (try clear ho0)
              obtain ⟨Ao23, co23, eo23⟩ := Kd.R_slice HO119.out
              (first | subst eo23 | (injection eo23 with f1_ f2_ f3_; have f4_ := f1_.symm; have f5_ := f3_.symm; clear f1_ f2_ f3_; subst f4_; subst f5_))
              refine hK.out _ _ trivial (fun hHeld => ?_)
              clear hK K
              refine norm_ (a' := ?_) ?_ ?_
              rotate_left
              · show Act.put _ (some 40) _ = _
                simp only [Act.put, List.setIfInBounds_toArray, List.set_cons_zero, List.set_cons_succ, i64_w, i32_w]
                rfl
              refine one_ (i := 10) (N := some 41) #[true, true, true, true, true, true, true, true, true, true, true, false, false] rfl rfl (one_of HT_.out (by kernel_rfl)) (by decide) (fun K hK => ?_)
              refine goes_ Try.func28 (by kernel_rfl) rfl #[.slice A19 (l0.drop ((ji8) : Int).toNat).length (c0 - (ji8).toNat), .slice Ao23 t117.length co23] (by rfl) rfl rfl (by (try simp only [List.map_toArray, List.map_cons, List.map_nil]); first | done | (rw [show (l0.drop ((ji8) : Int).toNat).length = (l0.length - (ji8).toNat) from List.length_drop] <;> rfl) | (simp only [hji8]; rfl) | rfl | (simp only [List.length_drop, List.length_take]; rfl)) ?_
              with_reducible refine (slices_Equal_byte_byte.calls k _ _ (l0.drop ((ji8) : Int).toNat) _ _ t117 true _ ?side1 ?side2 ?side3 ?side4 A15.out).mono ?_
              (case side1 => repeat (first | exact (Kd.C_below HR114.out HB.out) | exact HR114.out | (with_reducible refine Kd.C_alloc ?_ _) | (with_reducible refine Kd.C_drewN ?_ _) | (with_reducible refine Kd.C_drew ?_)))
              (case side2 => exact HC114.out)
              (case side3 => repeat (first | exact (Kd.R_reads' HO119.out).2.2 | (with_reducible refine Kd.C_alloc ?_ _) | (with_reducible refine Kd.C_drewN ?_ _) | (with_reducible refine Kd.C_drew ?_)))
              (case side4 => exact (Kd.R_reads' HO119.out).2.1)
              rintro e w' ⟨rfl, ⟨nd, rfl⟩⟩
              refine ⟨_, rfl, ?_⟩
              refine hK.out _ _ trivial (fun hHeld => ?_)
              clear hK K
              refine norm_ (a' := ?_) ?_ ?_
              rotate_left
              · show Act.put _ (some 41) _ = _
                simp only [Act.put, List.setIfInBounds_toArray, List.set_cons_zero, List.set_cons_succ, i64_w, i32_w]
                rfl
              refine pure_ (i := 11) (N := some 42) (v := ?_) (a' := ?_) #[true, true, true, true, true, true, true, true, true, true, true, true, false] rfl rfl (any_of HT_.out (by kernel_rfl)) (fun _ _ _ h => h) (Or.inl ⟨by rfl, ?_⟩) ?_ ?_
              rotate_left
              · intro w'
                go_simp
                with_reducible rfl
              rotate_left
              · simp only [Act.put, List.setIfInBounds_toArray, List.set_cons_zero, List.set_cons_succ, i64_w, i32_w]
                rfl
              refine pure_ (i := 12) (N := some 30) (v := ?_) (a' := ?_) #[true, true, true, true, true, true, true, true, true, true, true, true, true] rfl rfl (any_of HT_.out (by kernel_rfl)) (fun _ _ _ h => h) (Or.inl ⟨by rfl, ?_⟩) ?_ ?_
              rotate_left
              · intro w'
                go_simp
                with_reducible rfl
              rotate_left
              · simp only [Act.put, List.setIfInBounds_toArray, List.set_cons_zero, List.set_cons_succ, i64_w, i32_w]
                rfl
              refine done_ (done_of HT_.out (by kernel_rfl)) ?_
              have hmf : ∀ (fn : Fn) (first cap : Array Value) (w : World), (Instr.makeFunc fn first cap).run Try.prog w = .ok (.func fn first cap) w := fun _ _ _ _ => rfl
              have hu33 := Try.underlying33
              have hu22 := Try.underlying22
              obtain ⟨i023, hi023, _, hsz23, _⟩ := info_parts info5
              obtain ⟨A23, hcut23, hA23, hC23⟩ := print_mid_of (P := Try.prog) (Value.int .u8) 0 22 5 .i64 .i64 Try.underlying22 hi023 hsz23 A0 c0 l0 7 (ji8) (by omega) c17 (of_decide_eq_true (by first | (with_reducible assumption) | assumption)) HC0.out
              (try simp only [Int.reduceToNat] at hcut23 hA23 hC23)
              have HR23 := Aside0.mk (Kd.C_of_reads (h1 := fun _ => rfl) (hA23 _ (Kd.reads_of_C HR0.out)))
              have HC23 := Aside0.mk hC23
              clear hA23 hC23 hi023 hsz23
              have hlen23 : Aside0 ((ji8).toNat - 7 = ((l0.take (ji8 : Int).toNat).drop 7).length) := ⟨by rw [List.length_drop, List.length_take]; have h_ : (ji8 : Int) ≤ (l0.length : Int) := of_decide_eq_true (by first | (with_reducible assumption) | assumption); omega⟩
              have n0_ := Aside0.mk (pw_below_drewN HB.out nd)
              clear HB
              have HB := n0_
              clear n0_
              generalize w22.drewN nd = w29 at HB ⊢
              go_wp2_with (first | ((with_reducible refine gate_dst (N := 6) rfl ?_); refine box_event ?hg (N := 6) ?hd (cs := #[.slice none 0 0]) (t := 22) ?hr ?_; (case hd => rfl); (case hg => rfl); (case hr => first | (go_simp; done) | (go_simp; rfl)); intro gb hgb w30 hbox hb; have HX := Aside0.mk hbox; have HG := Aside0.mk (show w.heap.size ≤ gb from by rw [hgb]; exact HB.out.size); have n0_ := Aside0.mk (below_step HB.out hb); clear HB; have HB := n0_; clear n0_; have hcz := ((blk_cell hbox 0).trans rfl : w30.cell? ⟨gb, 0, none⟩ = some (.slice none 0 0)); have hfz := blk_frozen hbox 0; clear hgb hbox hb))
              go_loopg [3, 8] k (fun kq v3 v8 w' => ∃ (x3_1 : List S33) (x8_1 : Int) (xl : List Int) (Al : Option Addr) (cl : Nat), v8 = .int .i64 x8_1 ∧ Aside0 (pack_Unpack.l0 kq l0 xl x8_1 x3_1 = some (r1, r2, r3)) ∧ Aside0 (kq ≤ k) ∧ Aside0 (Kd.S k33 33 w' w.heap.size (fun k_ => k_ ≠ gb) v3 x3_1) ∧ Aside0 (Kd.F (Kd.int .u8) w' (fun k_ => k_ ≠ gb ∧ some k_ ≠ (v3 : Value).ownBlock) Al xl.length xl) ∧ Aside0 (xl.length ≤ cl) ∧ Aside0 (w'.heap[gb]? = some (.cells #[.slice Al xl.length cl] 22 (0, 0))) ∧ Aside0 (Below w.heap.size w w'))
              case atStart => exact ⟨([] : List S33), 0, ((l0.take (ji8 : Int).toNat).drop 7), A23, c0 - 7, (by first | rfl | (simp; done) | (simp [*]; done)), H', ⟨Nat.le_refl _⟩, ⟨Kd.S_nil _ _ _ _ _⟩, ⟨Kd.F_mono (Kd.F_far (p := ⟨gb, 0, none⟩) (Kd.F_mono (ok' := fun k_ => k_ ≠ gb) (Kd.F_step (Kd.C_F (Kd.heap_int .u8) HR23.out) (fun k_ hk _ => HB.out.block k_ hk)) (fun k_ hk => by have := HG.out; omega)) (fun _ hk => hk) _) (fun k_ hk => ⟨hk, by simp [Value.ownBlock]⟩)⟩, HC23, ⟨by have h_ := blk_put (cs := #[.slice none 0 0]) HX.out 0 (.slice A23 ((l0.take (ji8 : Int).toNat).drop 7).length (c0 - 7)) rfl; rw [← hlen23.out] at h_ ⊢; exact h_⟩, ⟨HB.out.setCell HG.out _⟩⟩
              case round =>
                clear H'
                (try clear hcz hfz HX hcut23 HR23 HC23 hlen23)
                (try clear HT_ HW_)
                (try clear HO119 HR114 HC114 HR115 HC115 A13 A14 A15 hcut19 hcut20)
                (try clear A2 c3b0 c3b1 c4b0 c6b0 hji8w c9b0 c9b1 c10b0 c10b1 c11b0 c12b0 hji8 c17)
                obtain ⟨x3_1, x8_1, xl, Al, cl, rfl, HA, HK1, HS, HF, HCL, HGB, HB⟩ := hrel
                have hcl : wr.cell? ⟨gb, 0, none⟩ = some (.slice Al xl.length cl) := (blk_cell HGB.out 0).trans rfl
                cases gk with
                | zero => exact absurd HA.out (by simp [pack_Unpack.l0])
                | succ k1 =>
                  have H := HA.out
                  clear HA
                  simp only [pack_Unpack.l0] at H
                  by_cases c20 : 0 < xl.length
                  · rw [if_pos c20] at H
                    have c20b0 : decide (0 < (xl.length : Int)) = true := decide_eq_true (by omega)
                    have c20b1 : decide (0 < xl.length) = true := decide_eq_true c20
                    have C20 := Aside0.mk c20
                    clear c20
                    replace H := Option.bind_eq_some_iff.mp H
                    obtain ⟨⟨t21, t22, t23⟩, A210, H⟩ := H
                    replace H : (if t23 = 0 then (if (wrap64 (rd xl 0)) ≤ x8_1 then (some (0, ([] : List S33), 4)) else (if x3_1.length < 4398046511104 then (pack_Unpack.l0 k1 l0 t22 (wrap64 (rd xl 0)) (x3_1 ++ [(⟨wrap64 (rd xl 0), t21⟩ : S33)])) else none)) else (some (0, ([] : List S33), 4))) = some (r1, r2, r3) := H
                    have A21 := Aside0.mk A210
                    clear A210
                    have H1 := Aside0.mk H
                    clear H
                    go_upto_region 15 with (first | (go_at_call 31; (with_reducible refine (pack_Unpack_1.calls k1 gb Al cl xl t21 t22 t23 _ ?s1 ?s2 ?s3 ?s4 A21.out).mono ?_); (case s1 => exact HGB.out); (case s2 => exact Kd.F_now HF.out); (case s3 => exact HCL.out); (case s4 => exact C20.out); rintro x w31 ⟨v1, v2, rfl, ho1, ho2, hgb1, hsz1, hk1, hbg⟩; obtain ⟨Ao1, co1, eo1⟩ := Kd.R_slice ho1; subst eo1; obtain ⟨Ao2, co2, eo2⟩ := Kd.R_slice ho2; subst eo2; have HO1 := Aside0.mk ho1; have HO2 := Aside0.mk ho2; have HGB1 := Aside0.mk hgb1; have HSZ1 := Aside0.mk hsz1; have HK2 := Aside0.mk hk1; have HBG := Aside0.mk hbg; clear ho1 ho2 hgb1 hsz1 hk1 hbg) | ((with_reducible refine gate_dst (N := 9) rfl ?_); refine box_event ?hg (N := 9) ?hd (cs := #[.int .i64 0, .slice none 0 0]) (t := 33) ?hr ?_; (case hd => rfl); (case hg => rfl); (case hr => first | (go_simp; done) | (go_simp; rfl)); intro g9 hg9 w32 hbox hb; have HX := Aside0.mk hbox; have HG9 := Aside0.mk hg9; have HB9 := Aside0.mk hb; have hc9_0 := ((blk_cell hbox 0).trans rfl : w32.cell? ⟨g9, 0, none⟩ = some (.int .i64 0)); have hc9_1 := ((blk_cell hbox 1).trans rfl : w32.cell? ⟨g9, 1, none⟩ = some (.slice none 0 0)); have hfz9_0 := blk_frozen hbox 0; have hfz9_1 := blk_frozen hbox 1; clear hg9 hbox hb))
                    have hgbr := blk_lt HGB.out
                    have hg9 := HG9.out
                    have h31 := HSZ1.out
                    have h32 := HB9.out.size
                    have h0r := HB.out.size
                    have hG := HG.out
                    have hfar : ∀ k_, k_ ≠ g9 → ((w32.setCell ⟨g9, 0, none⟩ (.int .i64 (wrap64 (rd xl 0)))).setCell ⟨g9, 1, none⟩ (.slice Ao1 t21.length co1)).heap[k_]? = w32.heap[k_]? := fun k_ h => (Below.heap_setCell _ ⟨g9, 1, none⟩ _ k_ h).trans (Below.heap_setCell _ ⟨g9, 0, none⟩ _ k_ h)
                    have hx33 := blk_put (cs := #[.int .i64 (wrap64 (rd xl 0)), .slice none 0 0]) (blk_put (cs := #[.int .i64 0, .slice none 0 0]) HX.out 0 (.int .i64 (wrap64 (rd xl 0))) rfl) 1 (.slice Ao1 t21.length co1) rfl
                    have hz33 : w32.heap.size ≤ ((w32.setCell ⟨g9, 0, none⟩ (.int .i64 (wrap64 (rd xl 0)))).setCell ⟨g9, 1, none⟩ (.slice Ao1 t21.length co1)).heap.size := by simp [World.setCell]
                    have hb33 := (((HB.out.trans (HBG.out.mono HG.out)).trans (HB9.out.mono (by omega))).setCell (p := ⟨g9, 0, none⟩) (by show w.heap.size ≤ g9; omega) (.int .i64 (wrap64 (rd xl 0)))).setCell (p := ⟨g9, 1, none⟩) (by show w.heap.size ≤ g9; omega) (.slice Ao1 t21.length co1)
                    generalize ((w32.setCell ⟨g9, 0, none⟩ (.int .i64 (wrap64 (rd xl 0)))).setCell ⟨g9, 1, none⟩ (.slice Ao1 t21.length co1)) = w33 at hfar hx33 hz33 hb33 ⊢
                    have hc33_0 : w33.cell? ⟨g9, 0, none⟩ = some (.int .i64 (wrap64 (rd xl 0))) := (blk_cell hx33 0).trans rfl
                    have hc33_1 : w33.cell? ⟨g9, 1, none⟩ = some (.slice Ao1 t21.length co1) := (blk_cell hx33 1).trans rfl
                    have HGB3 := Aside0.mk ((hfar gb (by omega)).trans ((HB9.out.block gb (by omega)).trans HGB1.out))
                    have HS3 := Aside0.mk (Kd.S_step (w1 := w33) (Kd.S_mono (ok' := fun k_ => k_ ≠ gb ∧ k_ < wr.heap.size) (Kd.S_bound HS.out) (fun k_ hk => ⟨hk.1, hk.2.2.1⟩)) (fun k_ hk hlt => (hfar k_ (by omega)).trans ((HB9.out.block k_ (by omega)).trans (HK2.out k_ hlt hk.1))))
                    have HO3 := Aside0.mk (Kd.R_step (w1 := w33) (Kd.R_mono (ok' := fun k_ => wr.heap.size ≤ k_ ∧ k_ < w31.heap.size) (Kd.R_bound HO1.out) (fun k_ hk => ⟨hk.2.1, hk.2.2.1⟩)) (fun k_ hk hlt => (hfar k_ (by omega)).trans (HB9.out.block k_ hlt)))
                    have HF3 := Aside0.mk (Kd.F_step (W1 := w33) (Kd.R_F (Kd.R_mono (ok' := fun k_ => wr.heap.size ≤ k_ ∧ k_ < w31.heap.size) (Kd.R_bound HO2.out) (fun k_ hk => ⟨hk.2.1, hk.2.2.1⟩))) (fun k_ hk hlt => (hfar k_ (by omega)).trans (HB9.out.block k_ hlt)))
                    have HCL3 := Aside0.mk (Kd.R_reads' HO2.out).2.1
                    have HB3 := Aside0.mk hb33
                    have HX3 := Aside0.mk hx33
                    have HGR9 := Aside0.mk (show w31.heap.size ≤ g9 ∧ g9 < w33.heap.size from ⟨by omega, blk_lt hx33⟩)
                    have HGR := Aside0.mk (show gb < wr.heap.size ∧ wr.heap.size ≤ w31.heap.size ∧ w31.heap.size ≤ w33.heap.size ∧ w.heap.size ≤ wr.heap.size from ⟨hgbr, h31, by omega, h0r⟩)
                    clear hgbr hg9 h31 h32 h0r hG hfar hx33 hz33 hb33 HX HG9 HB9 HGB1 HSZ1 HK2 HBG HO1 HO2 HGB HCL HF HS HB hcl
                    by_cases c22 : t23 = 0
                    · have H := H1.out
                      clear H1
                      rw [if_pos c22] at H
                      rw [decide_eq_true c22]
                      clear c22
                      by_cases c23 : (wrap64 (rd xl 0)) ≤ x8_1
                      · rw [if_pos c23] at H
                        have c23b : decide ((wrap64 (rd xl 0)) ≤ x8_1) = true := decide_eq_true c23
                        clear c23
                        simp only [Option.some.injEq, Prod.mk.injEq] at H
                        obtain ⟨rfl, rfl, rfl⟩ := H
                        go_wp2
                        go_ret3
                        exact ⟨_, rfl, Kd.S_nil _ _ _ _ _, HB3.out⟩
                      · rw [if_neg c23] at H
                        have c23b : decide ((wrap64 (rd xl 0)) ≤ x8_1) = false := decide_eq_false c23
                        clear c23
                        by_cases c24 : x3_1.length < 4398046511104
                        · rw [if_pos c24] at H
                          have LM := Aside0.mk c24
                          clear c24
                          have H' := Aside0.mk H
                          clear H
                          go_wp2_with ((with_reducible refine gate_builtin (b := .append) (xs := #[.tmp 64, .tmp 66]) rfl ?_); at_builtin; refine Kd.S_append k33 (w0 := w) w.heap.size rfl (.tmp 64) (.tmp 66) 27 33 (.agg #[(.int .i64 0), (.slice none 0 0)]) 32 rfl Try.underlying27 info33 rfl (by decide) (by omega) u3 x3_1 (⟨wrap64 (rd xl 0), t21⟩ : S33) [.int .i64 (wrap64 (rd xl 0)), .slice Ao1 t21.length co1] (fun k_ => k_ ≠ gb) (fun k_ => some k_ = (.slice Ao1 t21.length co1 : Value).ownBlock) rfl rfl ?aP ?aK ?aF ?aO ?aB ?aS ?aL ?_; (case aP => exact k33_mkM _ _ _ (⟨wrap64 (rd xl 0), t21⟩ : S33) (Kd.R_mono (Kd.R_tight rfl (Kd.R_lower HO3.out HGR.out.2.2.2)) (fun _ h_ => h_))); (case aK => exact fun k_ hk_ => ⟨by have h1_ := HO3.out.1 k_ hk_.symm; have h2_ := HGR.out; omega, fun e_ => by have h1_ := HO3.out.1 k_ hk_.symm; have h3_ := (Kd.S_R HS3.out).1 k_ e_.symm; omega⟩); (case aF => exact fun k_ hk_ => by have h2_ := HGR.out; omega); (case aO => exact Kd.S_mono HS3.out (fun k_ hk_ => ⟨hk_.1, fun e_ => by have h1_ := HO3.out.1 k_ e_.symm; omega⟩)); (case aB => exact HB3.out); (case aS => exact HB3.out.size); (case aL => have := LM.out; omega); intro v34 w34 ho hb hg hat; have HS4 := Aside0.mk ho; have HB4 := Aside0.mk hb; have HGB4 := Aside0.mk ((hg.block gb (by have h2_ := HGR.out; omega) (fun e_ => (Kd.S_R HS3.out).1 gb e_.symm |>.1 rfl)).trans HGB3.out); have HX4 := ((hg.block g9 HGR9.out.2 (fun e_ => by have h3_ := (Kd.S_R HS3.out).1 g9 e_.symm; have h2_ := HGR.out; have h4_ := HGR9.out; omega)).trans HX3.out); have HF4 := Aside0.mk (Kd.F_after (Kd.F_mono (ok' := fun k_ => k_ ≠ gb ∧ some k_ ≠ (u3 : Value).ownBlock) HF3.out (fun k_ hk_ => ⟨by have h2_ := HGR.out; omega, fun e_ => by have h3_ := (Kd.S_R HS3.out).1 k_ e_.symm; omega⟩)) hg hat); have hc34_0 : w34.cell? ⟨g9, 0, none⟩ = some (.int .i64 (wrap64 (rd xl 0))) := (blk_cell HX4 0).trans rfl; clear HX4 ho hb hg hat)
                          go_roundg k1
                          case measure => have := HK1.out; omega
                          case rel => exact ⟨x3_1 ++ [(⟨wrap64 (rd xl 0), t21⟩ : S33)], wrap64 (rd xl 0), t22, Ao2, co2, rfl, H', ⟨by have := HK1.out; omega⟩, HS4, HF4, HCL3, HGB4, HB4⟩
                        · rw [if_neg c24] at H
                          exact absurd H (by simp)
                    · have H := H1.out
                      clear H1
                      rw [if_neg c22] at H
                      rw [decide_eq_false c22]
                      clear c22
                      simp only [Option.some.injEq, Prod.mk.injEq] at H
                      obtain ⟨rfl, rfl, rfl⟩ := H
                      go_wp2
                      go_ret3
                      exact ⟨_, rfl, Kd.S_nil _ _ _ _ _, HB3.out⟩
                  · rw [if_neg c20] at H
                    have c20b0 : decide (0 < (xl.length : Int)) = false := decide_eq_false (by omega)
                    have c20b1 : decide (0 < xl.length) = false := decide_eq_false c20
                    clear c20
                    by_cases c21 : 6 < (l0.length : Int)
                    · rw [if_pos c21] at H
                      simp only [Option.some.injEq, Prod.mk.injEq] at H
                      obtain ⟨rfl, rfl, rfl⟩ := H
                      obtain ⟨ad6, e6, hx6⟩ := Kd.at_int (Kd.C_below HR0.out HB.out) 6 (by omega) c21
                      cases e6
                      (try simp only [show (6 : Int).toNat = 6 from rfl, Nat.reduceMul, Nat.reduceEqDiff, Go.Addr.add, ↓reduceIte] at hx6)
                      (try rw [show ((6 : Int)).toNat = 6 from rfl] at hx6)
                      have p6 := eq_true c21
                      have c21b : decide (6 < (l0.length : Int)) = true := decide_eq_true c21
                      clear c21
                      go_wp2
                      go_ret3
                      exact ⟨_, rfl, Kd.S_mono HS.out (fun _ _ => trivial), HB.out⟩
                    · rw [if_neg c21] at H
                      exact absurd H (by simp)
            · replace c16 := Bool.eq_false_iff.mpr c16
              subst c16
              have H1 : (some (0, ([] : List (S33)), 30)) = some (r1, r2, r3) := by rw [if_neg (show ¬ (false = true) by decide)] at H; exact H
              clear H
              have H := H1
              clear H1
              simp only [Option.some.injEq, Prod.mk.injEq] at H
              obtain ⟨rfl, rfl, rfl⟩ := H
              go_enter Try.func14, Try.ntmps14
              try go_wp2_with (first | ((with_reducible refine gate_callee (f := 12) rfl ?_); refine goesL_ (some 13) rfl rfl Try.func12 (by kernel_rfl) rfl #[.slice A0 l0.length c0] rfl (by (try simp only [List.map_toArray, List.map_cons, List.map_nil]); first | done | rfl | (simp only [List.length_drop, List.length_take]; rfl)) ?_; (with_reducible refine (pack_Size.calls k _ _ l0 t112 t113 _ ?side1 ?side2 A2.out).mono ?_); (case side1 => repeat (first | exact HR0.out | (with_reducible refine Kd.C_alloc ?_ _) | (with_reducible refine Kd.C_drewN ?_ _) | (with_reducible refine Kd.C_drew ?_))); (case side2 => exact HC0.out); rintro e w24 ⟨rfl, hb⟩; refine ⟨_, rfl, ?_⟩; have n0_ := Aside0.mk (below_step (by repeat (first | (with_reducible first | exact HB.out | apply below_alloc | apply pw_below_drewN | apply below_drew1) | exact HB.out)) hb); clear HB; have HB := n0_; clear n0_; (try clear hb); (try clear hb2); (try clear hk); (try clear hi)))
              have n0_ := Aside0.mk (below_drew1 HB.out)
              clear HB
              have HB := n0_
              clear n0_
              obtain ⟨i026, hi026, _, hsz26, _⟩ := info_parts info5
              obtain ⟨A26, hcut26, hA26, hC26⟩ := print_drop_of (P := Try.prog) (Value.int .u8) 0 22 5 .i64 Try.underlying22 hi026 hsz26 A0 c0 l0 (ji8) (of_decide_eq_true (by first | (with_reducible assumption) | assumption)) (of_decide_eq_true (by first | (with_reducible assumption) | assumption)) HC0.out
              have HR114 := Aside0.mk (Kd.C_of_reads (h1 := fun _ => rfl) (hA26 _ (Kd.reads_of_C HR0.out)))
              have HC114 := Aside0.mk hC26
              clear hA26 hC26 hi026 hsz26
              obtain ⟨i027, hi027, _, hsz27, _⟩ := info_parts info5
              obtain ⟨hcut27, hA27, hC27⟩ := print_take_of (P := Try.prog) (Value.int .u8) 0 22 5 .i64 Try.underlying22 hi027 hsz27 A0 c0 l0 (ji8) (of_decide_eq_true (by first | (with_reducible assumption) | assumption)) (of_decide_eq_true (by first | (with_reducible assumption) | assumption)) HC0.out
              have HR115 := Aside0.mk (Kd.C_of_reads (h1 := fun _ => rfl) (hA27 _ (Kd.reads_of_C HR0.out)))
              have HC115 := Aside0.mk hC27
              clear hA27 hC27 hi027 hsz27
              refine start_ (n := 13) (S := fun w' => True) (ds := []) #[false, false, false, false, false, false, false, false, false, false, false, false, false] (by kernel_rfl) rfl rfl trivial (fun hHeld => ?_); refine with_tabW pack_Unpack.tab8 pack_Unpack.bits8 (fun HT_ HW_ => ?_)
              generalize w24.drew = w25 at HB HR114 HR115 hHeld ⊢
              refine pure_ (i := 0) (N := some 31) (v := ?_) (a' := ?_) #[true, false, false, false, false, false, false, false, false, false, false, false, false] rfl rfl (any_of HT_.out (by kernel_rfl)) (fun _ _ _ h => h) (Or.inl ⟨by rfl, ?_⟩) ?_ ?_
              rotate_left
              · intro w'
                go_simp
                with_reducible rfl
              rotate_left
              · simp only [Act.put, List.setIfInBounds_toArray, List.set_cons_zero, List.set_cons_succ, i64_w, i32_w]
                rfl
              refine pure_ (i := 1) (N := some 32) (v := ?_) (a' := ?_) #[true, true, false, false, false, false, false, false, false, false, false, false, false] rfl rfl (any_of HT_.out (by kernel_rfl)) (fun _ _ _ h => h) (Or.inl ⟨by rfl, ?_⟩) ?_ ?_
              rotate_left
              · intro w'
                go_simp
                with_reducible rfl
              rotate_left
              · simp only [Act.put, List.setIfInBounds_toArray, List.set_cons_zero, List.set_cons_succ, i64_w, i32_w]
                rfl
              refine pure_ (i := 2) (N := some 33) (v := ?_) (a' := ?_) #[true, true, true, false, false, false, false, false, false, false, false, false, false] rfl rfl (any_of HT_.out (by kernel_rfl)) (fun _ _ _ h => h) (Or.inl ⟨by rfl, ?_⟩) ?_ ?_
              rotate_left
              · intro w'
                go_simp
                with_reducible rfl
              rotate_left
              · simp only [Act.put, List.setIfInBounds_toArray, List.set_cons_zero, List.set_cons_succ, i64_w, i32_w]
                rfl
              refine pure_ (i := 3) (N := some 34) (v := ?_) (a' := ?_) #[true, true, true, true, false, false, false, false, false, false, false, false, false] rfl rfl (any_of HT_.out (by kernel_rfl)) (fun _ _ _ h => h) (Or.inl ⟨by rfl, ?_⟩) ?_ ?_
              rotate_left
              · intro w'
                go_simp
                with_reducible rfl
              rotate_left
              · simp only [Act.put, List.setIfInBounds_toArray, List.set_cons_zero, List.set_cons_succ, i64_w, i32_w]
                rfl
              refine pure_ (i := 4) (N := some 35) (v := ?_) (a' := ?_) #[true, true, true, true, true, false, false, false, false, false, false, false, false] rfl rfl (any_of HT_.out (by kernel_rfl)) (fun _ _ _ h => h) (Or.inl ⟨by rfl, ?_⟩) ?_ ?_
              rotate_left
              · intro w'
                go_simp
                with_reducible rfl
              rotate_left
              · simp only [Act.put, List.setIfInBounds_toArray, List.set_cons_zero, List.set_cons_succ, i64_w, i32_w]
                rfl
              refine pure_ (i := 5) (N := some 36) (v := ?_) (a' := ?_) #[true, true, true, true, true, true, false, false, false, false, false, false, false] rfl rfl (any_of HT_.out (by kernel_rfl)) (fun _ _ _ h => h) (Or.inl ⟨by rfl, ?_⟩) ?_ ?_
              rotate_left
              · intro w'
                go_simp
                with_reducible rfl
              rotate_left
              · simp only [Act.put, List.setIfInBounds_toArray, List.set_cons_zero, List.set_cons_succ, i64_w, i32_w]
                rfl
              refine pure_ (i := 6) (N := some 37) (v := ?_) (a' := ?_) #[true, true, true, true, true, true, true, false, false, false, false, false, false] rfl rfl (any_of HT_.out (by kernel_rfl)) (fun _ _ _ h => h) (Or.inl ⟨by rfl, ?_⟩) ?_ ?_
              rotate_left
              · intro w'
                go_simp
                with_reducible rfl
              rotate_left
              · simp only [Act.put, List.setIfInBounds_toArray, List.set_cons_zero, List.set_cons_succ, i64_w, i32_w]
                rfl
              refine pure_ (i := 7) (N := some 38) (v := ?_) (a' := ?_) #[true, true, true, true, true, true, true, true, false, false, false, false, false] rfl rfl (any_of HT_.out (by kernel_rfl)) (fun _ _ _ h => h) (Or.inl ⟨by rfl, ?_⟩) ?_ ?_
              rotate_left
              · intro w'
                go_simp
                with_reducible rfl
              rotate_left
              · simp only [Act.put, List.setIfInBounds_toArray, List.set_cons_zero, List.set_cons_succ, i64_w, i32_w]
                rfl
              refine one_ (i := 8) (N := some 39) #[true, true, true, true, true, true, true, true, true, false, false, false, false] rfl rfl (one_of HT_.out (by kernel_rfl)) (by decide) (fun K hK => ?_)
              refine goes_ Try.func30 (by kernel_rfl) rfl #[.slice A0 (l0.take ((ji8) : Int).toNat).length c0] (by rfl) rfl rfl (by (try simp only [List.map_toArray, List.map_cons, List.map_nil]); first | done | (rw [show (l0.take ((ji8) : Int).toNat).length = (ji8).toNat from (by rw [List.length_take]; have h_ : ((ji8) : Int) ≤ (l0.length : Int) := (by first | exact of_decide_eq_true (by first | (with_reducible assumption) | assumption) | (have h2_ := hji8_; split at h2_ <;> omega)); omega)] <;> rfl) | (simp only [hji8]; rfl) | rfl | (simp only [List.length_drop, List.length_take]; rfl)) ?_
              with_reducible refine (crc_Of.calls k _ _ (l0.take ((ji8) : Int).toNat) t116 _ ?side1 ?side2 A13.out).mono ?_
              (case side1 => repeat (first | exact (Kd.C_below HR115.out HB.out) | exact HR115.out | (with_reducible refine Kd.C_alloc ?_ _) | (with_reducible refine Kd.C_drewN ?_ _) | (with_reducible refine Kd.C_drew ?_)))
              (case side2 => exact HC115.out)
              rintro e w28 ⟨rfl, hb⟩
              refine ⟨_, rfl, ?_⟩
              have n0_ := Aside0.mk (below_step (by repeat (first | (with_reducible first | exact HB.out | apply below_alloc | apply pw_below_drewN | apply below_drew1) | exact HB.out)) hb)
              clear HB
              have HB := n0_
              clear n0_
              (try clear hb)
              (try clear hb2)
              (try clear hk)
              (try clear hi)
              refine hK.out _ _ trivial (fun hHeld => ?_)
              clear hK K
              refine norm_ (a' := ?_) ?_ ?_
              rotate_left
              · show Act.put _ (some 39) _ = _
                simp only [Act.put, List.setIfInBounds_toArray, List.set_cons_zero, List.set_cons_succ, i64_w, i32_w]
                rfl
              refine one_ (i := 9) (N := some 40) #[true, true, true, true, true, true, true, true, true, true, false, false, false] rfl rfl (one_of HT_.out (by kernel_rfl)) (by decide) (fun K hK => ?_)
              refine goes_ Try.func29 (by kernel_rfl) rfl #[.int .u32 t116] (by rfl) rfl rfl (by (try simp only [List.map_toArray, List.map_cons, List.map_nil]); first | done | rfl | (simp only [List.length_drop, List.length_take]; rfl)) ?_
              with_reducible refine (pack_four.calls t116 t117 _ A14.out).mono ?_
              rintro e w29 ⟨v118, rfl, ho0, hb⟩
              refine ⟨_, rfl, ?_⟩
              have n0_ := Aside0.mk (Kd.R_lower ho0 (below_size (by repeat (first | (with_reducible first | exact HB.out | apply below_alloc | apply pw_below_drewN | apply below_drew1) | exact HB.out))))
              have n1_ := Aside0.mk (below_step (by repeat (first | (with_reducible first | exact HB.out | apply below_alloc | apply pw_below_drewN | apply below_drew1) | exact HB.out)) hb)
              clear HB
              have HO119 := n0_
              have HB := n1_
              clear n0_ n1_
              (try clear hb)
              (try clear hb2)
              (try clear hk)
              (try clear hi)
              (try clear ho0)
              obtain ⟨Ao30, co30, eo30⟩ := Kd.R_slice HO119.out
              (first | subst eo30 | (injection eo30 with f1_ f2_ f3_; have f4_ := f1_.symm; have f5_ := f3_.symm; clear f1_ f2_ f3_; subst f4_; subst f5_))
              refine hK.out _ _ trivial (fun hHeld => ?_)
              clear hK K
              refine norm_ (a' := ?_) ?_ ?_
              rotate_left
              · show Act.put _ (some 40) _ = _
                simp only [Act.put, List.setIfInBounds_toArray, List.set_cons_zero, List.set_cons_succ, i64_w, i32_w]
                rfl
              refine one_ (i := 10) (N := some 41) #[true, true, true, true, true, true, true, true, true, true, true, false, false] rfl rfl (one_of HT_.out (by kernel_rfl)) (by decide) (fun K hK => ?_)
              refine goes_ Try.func28 (by kernel_rfl) rfl #[.slice A26 (l0.drop ((ji8) : Int).toNat).length (c0 - (ji8).toNat), .slice Ao30 t117.length co30] (by rfl) rfl rfl (by (try simp only [List.map_toArray, List.map_cons, List.map_nil]); first | done | (rw [show (l0.drop ((ji8) : Int).toNat).length = (l0.length - (ji8).toNat) from List.length_drop] <;> rfl) | (simp only [hji8]; rfl) | rfl | (simp only [List.length_drop, List.length_take]; rfl)) ?_
              with_reducible refine (slices_Equal_byte_byte.calls k _ _ (l0.drop ((ji8) : Int).toNat) _ _ t117 false _ ?side1 ?side2 ?side3 ?side4 A15.out).mono ?_
              (case side1 => repeat (first | exact (Kd.C_below HR114.out HB.out) | exact HR114.out | (with_reducible refine Kd.C_alloc ?_ _) | (with_reducible refine Kd.C_drewN ?_ _) | (with_reducible refine Kd.C_drew ?_)))
              (case side2 => exact HC114.out)
              (case side3 => repeat (first | exact (Kd.R_reads' HO119.out).2.2 | (with_reducible refine Kd.C_alloc ?_ _) | (with_reducible refine Kd.C_drewN ?_ _) | (with_reducible refine Kd.C_drew ?_)))
              (case side4 => exact (Kd.R_reads' HO119.out).2.1)
              rintro e w' ⟨rfl, ⟨nd, rfl⟩⟩
              refine ⟨_, rfl, ?_⟩
              refine hK.out _ _ trivial (fun hHeld => ?_)
              clear hK K
              refine norm_ (a' := ?_) ?_ ?_
              rotate_left
              · show Act.put _ (some 41) _ = _
                simp only [Act.put, List.setIfInBounds_toArray, List.set_cons_zero, List.set_cons_succ, i64_w, i32_w]
                rfl
              refine pure_ (i := 11) (N := some 42) (v := ?_) (a' := ?_) #[true, true, true, true, true, true, true, true, true, true, true, true, false] rfl rfl (any_of HT_.out (by kernel_rfl)) (fun _ _ _ h => h) (Or.inl ⟨by rfl, ?_⟩) ?_ ?_
              rotate_left
              · intro w'
                go_simp
                with_reducible rfl
              rotate_left
              · simp only [Act.put, List.setIfInBounds_toArray, List.set_cons_zero, List.set_cons_succ, i64_w, i32_w]
                rfl
              refine pure_ (i := 12) (N := some 30) (v := ?_) (a' := ?_) #[true, true, true, true, true, true, true, true, true, true, true, true, true] rfl rfl (any_of HT_.out (by kernel_rfl)) (fun _ _ _ h => h) (Or.inl ⟨by rfl, ?_⟩) ?_ ?_
              rotate_left
              · intro w'
                go_simp
                with_reducible rfl
              rotate_left
              · simp only [Act.put, List.setIfInBounds_toArray, List.set_cons_zero, List.set_cons_succ, i64_w, i32_w]
                rfl
              refine done_ (done_of HT_.out (by kernel_rfl)) ?_
              try go_wp2
              go_ret3
              exact ⟨_, by first | rfl | (simp [errW_none, errW_some] <;> rfl) | (simp only [← hji8]; first | rfl | (simp [errW_none, errW_some] <;> rfl)) | (simp [*, errW_none, errW_some] <;> rfl), by first | exact Kd.S_nil _ _ _ _ _ | exact Kd.N_nil _ _ _ _ _ | exact Kd.V_nil _ _ _ _ _ | exact Kd.Q_nil _ _ _ _ _ | exact Kd.R_nil _ _ _ _ _, by repeat (first | (with_reducible first | exact HB.out | apply below_alloc | apply pw_below_drewN | apply below_drew1) | exact HB.out)⟩
          · rw [if_neg c10] at H
            exact absurd H (by simp)
        · rw [if_neg c9] at H
          exact absurd H (by simp)
  · rw [if_neg c3] at H
    have c3b0 : (t113 == 0) = false := beq_eq_false_iff_ne.mpr c3
    have c3b1 : (t113 != 0) = true := bne_iff_ne.mpr c3
    simp only [Option.some.injEq, Prod.mk.injEq] at H
    obtain ⟨rfl, rfl, rfl⟩ := H
    go_enter Try.func14, Try.ntmps14
    go_wp2_with (first | ((with_reducible refine gate_callee (f := 12) rfl ?_); refine goesL_ (some 13) rfl rfl Try.func12 (by kernel_rfl) rfl #[.slice A0 l0.length c0] rfl (by (try simp only [List.map_toArray, List.map_cons, List.map_nil]); first | done | rfl | (simp only [List.length_drop, List.length_take]; rfl)) ?_; (with_reducible refine (pack_Size.calls k _ _ l0 t112 t113 _ ?side1 ?side2 A2.out).mono ?_); (case side1 => repeat (first | exact HR0.out | (with_reducible refine Kd.C_alloc ?_ _) | (with_reducible refine Kd.C_drewN ?_ _) | (with_reducible refine Kd.C_drew ?_))); (case side2 => exact HC0.out); rintro e w31 ⟨rfl, hb⟩; refine ⟨_, rfl, ?_⟩; have n0_ := Aside0.mk (below_step (by repeat (first | (with_reducible first | exact HB.out | apply below_alloc | apply pw_below_drewN | apply below_drew1) | exact HB.out)) hb); clear HB; have HB := n0_; clear n0_; (try clear hb); (try clear hb2); (try clear hk); (try clear hi)))
    go_ret3
    exact ⟨_, by first | rfl | (simp [errW_none, errW_some] <;> rfl) | (simp [*, errW_none, errW_some] <;> rfl), by first | exact Kd.S_nil _ _ _ _ _ | exact Kd.N_nil _ _ _ _ _ | exact Kd.V_nil _ _ _ _ _ | exact Kd.Q_nil _ _ _ _ _ | exact Kd.R_nil _ _ _ _ _, by repeat (first | (with_reducible first | exact HB.out | apply below_alloc | apply pw_below_drewN | apply below_drew1) | exact HB.out)⟩


end Go.Proofs.Ytpmikaoheaefiaa.X
