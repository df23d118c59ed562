/- The document's reader: Feed, Next. -/
import Derived.Test.YtkndghbognhocaaXFrG3
import Derived.Test.YtkndghbognhocaaXx0
import Derived.Test.YtkndghbognhocaaXx7
import Derived.Test.YtkndghbognhocaaXx3
namespace Go.Proofs.Ytkndghbognhocaa.X
open Go.RowKit Go.Proofs.YtkndghbognhocaaW.PrintWords Go.Proofs.YtkndghbognhocaaW.PrintLast Go.Proofs.YtkndghbognhocaaW.PrintMore Go.Proofs.Ytkndghbognhocaa.Pure
attribute [local go_sem] max2_int min2_int max_two min_two max_three min_three max_four min_four
set_option linter.unusedVariables false
set_option linter.unusedSimpArgs false
set_option maxHeartbeats 8000000 in
set_option maxRecDepth 100000 in
theorem Feed_rm (P0 : Nat → Prop) (g : Nat) (told : Bool) (l lb : List Int) (A1 : Option Addr) (c1 : Nat) (w0 w : World) (hB0 : Below w0.heap.size w0 w) (hr : RM told w w0.heap.size P0 g l) (hl : l.length ≤ 1048576)
    (hb : (Kd.int .u8).C w A1 lb.length lb) (hc : lb.length ≤ c1) (hlb : lb.length ≤ 140737488351232) :
    Calls Try.prog 18 #[.pointer (some ⟨g, 0, none⟩), .slice A1 lb.length c1] w fun e w' => e = .returned (.int .i64 (if l.length + lb.length ≤ 1048576 then 0 else 5)) ∧
      RM told w' w0.heap.size (fun k => P0 k ∨ w.heap.size ≤ k) g (if l.length + lb.length ≤ 1048576 then l ++ lb else l) ∧ Below w0.heap.size w0 w' ∧ Kept w w' P0 := by
  have hr0 := hr
  obtain ⟨hg, hbg, v, hcell, hq⟩ := hr
  obtain ⟨A, c, rfl, hcap, hC⟩ := Kd.Q_reads hq
  have hk1 : w.cell? ⟨g, 0, none⟩ = some (.slice A l.length c) := blk_cell hcell 0
  have hw : IntKind.i64.wrap ((l.length : Int) + (lb.length : Int)) = (l.length : Int) + (lb.length : Int) := by simp only [i64_w]; unfold wrap64; omega
  by_cases hs : l.length + lb.length ≤ 1048576
  · rw [if_pos hs, if_pos hs]
    have hd : decide (1048576 < (l.length : Int) + (lb.length : Int)) = false := decide_eq_false (by omega)
    go_enter Try.func18, Try.ntmps18
    go_wp2_with (first | ((with_reducible refine gate_builtin (b := .append) (xs := #[.tmp 18, .tmp 19]) rfl ?_); at_builtin; refine BQ_append_ev w0.heap.size rfl (.tmp 18) (.tmp 19) rfl Try.underlying22 info5 (.slice A l.length c) l lb A1 lb.length c1 (fun k => (P0 k ∨ w.heap.size ≤ k) ∧ k ≠ g) rfl rfl (Kd.Q_mono hq (fun k hk => ⟨.inl hk.1, hk.2⟩)) hb (fun k hk => ⟨.inr hk, by have := blk_lt hcell; omega⟩) hB0.size (by omega) ?_; intro v1 w1 hq1 hg1; obtain ⟨A2, c2, e2, hc2⟩ := Kd.Q_slice hq1; subst e2; have hcell1 := blk_grown hcell hg1 (Kd.Q_away hq (fun k hk => hk.2)); have hk1' : w1.cell? ⟨g, 0, none⟩ = some (.slice A l.length c) := blk_cell hcell1 0; have f1' : w1.frozen? ⟨g, 0, none⟩ = false := blk_frozen hcell1 0))
    go_ret
    rw [List.length_append] at hq1
    have hcell2 : (w1.setCell ⟨g, 0, none⟩ (.slice A2 (l.length + lb.length) c2)).heap[g]? = some (.cells (mkM told (.slice A2 (l.length + lb.length) c2)) 42 (0, 0)) := blk_put hcell1 0 _ rfl
    refine ⟨rfl, ⟨.inl hg, hbg, _, hcell2, Kd.Q_far hq1 (fun k hk => hk.2) _⟩, ?_, ?_⟩
    · exact (pw_below_grown hB0 _ hB0.size hg1 (fun k hk => Kd.Q_base hq k hk)).setCell hbg _
    · exact (Kept.of_grown hg1 (Kept.refl _ _) (fun k hk => .inl (hq.1 k hk).1)).setCell (.inl hg) _
  · rw [if_neg hs, if_neg hs]
    have hd : decide (1048576 < (l.length : Int) + (lb.length : Int)) = true := decide_eq_true (by omega)
    go_enter Try.func18, Try.ntmps18
    go_wp2
    go_ret
    exact ⟨rfl, hr0.mono (fun k hk => .inl hk), hB0, Kept.refl _ _⟩
theorem rbegins_n (L : List Int) (hB : BI L) (A : Option Addr) (n c : Nat) (w : World) (hn : L.length = n) (hm : n ≤ 1048576) (hC : CB w A n L) (hc : n ≤ c) :
    Calls Try.prog 38 #[.slice A n c] w fun e w' => e = .returned (.bool (beginsI L)) ∧ Below w.heap.size w w' := by
  subst hn
  obtain ⟨k, hk⟩ := (rbegins_ev L hB (by omega)).rounds
  exact incunableref28_begins.calls k A c L _ w hC hc hk
theorem rsum_n (L : List Int) (hB : BI L) (A : Option Addr) (n c : Nat) (w : World) (hn : L.length = n) (hm : n ≤ 1048576) (hC : CB w A n L) (hc : n ≤ c) :
    Calls Try.prog 30 #[.slice A n c] w fun e w' => ∃ v, e = .returned v ∧ (Kd.int .u8).R 5 w' w.heap.size (fun _ => True) v (crc4 L) ∧ Below w.heap.size w w' := by
  subst hn
  obtain ⟨k, hk⟩ := (rsum_ev L hB (by omega)).rounds
  exact incunableref28_sum.calls k A c L _ w hC hc hk
theorem rsize_val (m : List Int) (h : BI m) (h9 : ¬ m.length < 9) : Go.bits .or .i64 (Go.bits .or .i64 (wrap64 ((wrap64 (rd m 2)) * 65536)) (wrap64 ((wrap64 (rd m 3)) * 256))) (wrap64 (rd m 4)) = (sizeN m : Int) := by
  rw [(num3_bounds m h (by omega)).1]
  obtain ⟨a, b, c, d, e, t, rfl⟩ := five m (by omega)
  have hc := h c (by simp)
  have hd := h d (by simp)
  have he := h e (by simp)
  show _ = num3 c d e
  rw [show rd (a :: b :: c :: d :: e :: t) 2 = c from rfl, show rd (a :: b :: c :: d :: e :: t) 3 = d from rfl, show rd (a :: b :: c :: d :: e :: t) 4 = e from rfl, w64 (x := c) (by omega) (by omega), w64 (x := d) (by omega) (by omega), w64 (x := e) (by omega) (by omega), w64 (by omega) (by omega), w64 (by omega) (by omega)]
  exact or3 c d e hc hd he
/-- what the document's Next answers, and what it leaves -/
abbrev NextPostM (P0 : Nat → Prop) (g : Nat) (l : List Int) (w0 w : World) (r : (List Int × Bool × Int) × List Int × Bool) (e : Ending) (w' : World) : Prop :=
  ∃ A n c, e = .returned (.tuple #[.slice A n c, .bool r.1.2.1, .int .i64 r.1.2.2]) ∧ r.1.1.length = n ∧ CB w' A n r.1.1 ∧ n ≤ c ∧ RM r.2.2 w' w0.heap.size P0 g r.2.1 ∧ Below w0.heap.size w0 w' ∧ Kept w w' P0
theorem CB_nil (w : World) : CB w none 0 [] := (Kd.R_reads' (Kd.R_nil (Kd.int .u8) 5 w 0 (fun _ => True))).2.2
theorem nextI_syn {l : List Int} {told : Bool} (h : (skipL l).length < l.length ∧ told = false) : nextI l told = (([], false, 4), skipL l, true) := by unfold nextI; simp only []; rw [if_pos h]
theorem nextI_short {l : List Int} {told : Bool} (h : ¬ ((skipL l).length < l.length ∧ told = false)) (h9 : (skipL l).length < 9) : nextI l told = (([], false, 0), skipL l, told) := by unfold nextI; simp only []; rw [if_neg h, if_pos h9]
theorem nextI_wait {l : List Int} {told : Bool} (h : ¬ ((skipL l).length < l.length ∧ told = false)) (h9 : ¬ (skipL l).length < 9) (hw : (skipL l).length < 13 + sizeN (skipL l)) : nextI l told = (([], false, 0), skipL l, told) := by unfold nextI; simp only []; rw [if_neg h, if_neg h9, if_pos hw]
theorem nextI_bad {l : List Int} {told : Bool} (h : ¬ ((skipL l).length < l.length ∧ told = false)) (h9 : ¬ (skipL l).length < 9) (hw : ¬ (skipL l).length < 13 + sizeN (skipL l)) (hc : ¬ crc4 ((skipL l).take (9 + sizeN (skipL l))) = ((skipL l).take (13 + sizeN (skipL l))).drop (9 + sizeN (skipL l))) :
    nextI l told = (([], false, 30), (skipL l).drop (13 + sizeN (skipL l)), false) := by unfold nextI; simp only []; rw [if_neg h, if_neg h9, if_neg hw, if_neg hc]
theorem nextI_good {l : List Int} {told : Bool} (h : ¬ ((skipL l).length < l.length ∧ told = false)) (h9 : ¬ (skipL l).length < 9) (hw : ¬ (skipL l).length < 13 + sizeN (skipL l)) (hc : crc4 ((skipL l).take (9 + sizeN (skipL l))) = ((skipL l).take (13 + sizeN (skipL l))).drop (9 + sizeN (skipL l))) :
    nextI l told = ((((skipL l).take (9 + sizeN (skipL l))).drop 9, true, 0), (skipL l).drop (13 + sizeN (skipL l)), false) := by unfold nextI; simp only []; rw [if_neg h, if_neg h9, if_neg hw, if_pos hc]
set_option maxHeartbeats 16000000 in
set_option maxRecDepth 100000 in
theorem rNext_calls (P0 : Nat → Prop) (g : Nat) (told : Bool) (l : List Int) (hBI : BI l) (hl : l.length ≤ 1048576) (w0 w : World) (hB0 : Below w0.heap.size w0 w) (hr : RM told w w0.heap.size P0 g l) :
    Calls Try.prog 21 #[.pointer (some ⟨g, 0, none⟩)] w (NextPostM P0 g l w0 w (nextI l told)) := by
  have HR := Aside0.mk hr
  have HL := Aside0.mk hl
  have hBm := skip_BI hBI
  have hle := skip_le l
  have HLE := Aside0.mk hle
  clear hr hl hle
  go_enter Try.func21, Try.ntmps21
  go_upto_block 0 with (fail)
  go_cut [5] (fun v5 wc => ∃ p : Nat, v5 = .int .i64 (p : Int) ∧ Aside0 (p ≤ l.length) ∧ Aside0 (l.drop p = skipL l) ∧ Aside0 (RM told wc w0.heap.size P0 g l) ∧ Aside0 (Below w0.heap.size w0 wc) ∧ Aside0 (Kept w wc P0))
  case first =>
    go_wp2_with (fail)
    go_loopg [5] (l.length + 1) (fun kq v5 w' => ∃ p : Nat, v5 = .int .i64 (p : Int) ∧ Aside0 (kq + p = l.length + 1) ∧ Aside0 (p ≤ l.length) ∧ Aside0 (skipL (l.drop p) = skipL l) ∧ Aside0 (RM told w' w0.heap.size P0 g l) ∧ Aside0 (Below w0.heap.size w0 w') ∧ Aside0 (Kept w w' P0))
    case atStart => exact ⟨0, rfl, ⟨rfl⟩, ⟨Nat.zero_le _⟩, ⟨rfl⟩, HR, ⟨hB0⟩, ⟨Kept.refl _ _⟩⟩
    case round =>
      obtain ⟨p, rfl, hk, hp, hs, hR, hB, hK⟩ := hrel
      clear HR
      obtain ⟨hg2, hbg2, v2, hcell2, hq2⟩ := hR.out
      obtain ⟨A2, c2, rfl, hcap2, hC2⟩ := Kd.Q_reads hq2
      have k2 : wr.cell? ⟨g, 0, none⟩ = some (.slice A2 l.length c2) := blk_cell hcell2 0
      by_cases h0 : p < l.length
      · have d0 : decide ((p : Int) < (l.length : Int)) = true := decide_eq_true (by omega)
        have dn : decide (p < l.length) = true := decide_eq_true h0
        obtain ⟨A3, c3, hcut3, hQ3⟩ := BQ_from A2 c2 l p hp.out
        have hq3 := Kd.Q_reads' (hQ3 _ _ _ hq2)
        have hC3 := hq3.2.2
        have hc3 := hq3.2.1
        have HLP := Aside0.mk (show (l.drop p).length = l.length - p from List.length_drop)
        (try rw [HLP.out] at hC3)
        clear hq3
        have HP := Aside0.mk h0
        clear h0
        by_cases hbeg : beginsI (l.drop p) = true
        · have hat : l.drop p = skipL l := by
            rw [← hs.out]
            cases hx : l.drop p with
            | nil => rfl
            | cons x t => rw [skipL, if_pos (by rw [← hx]; exact hbeg)]
          go_wp2_with (first | (go_at_call 38; refine (rbegins_n (l.drop p) (BI_drop hBI p) A3 (l.length - p) c3 _ HLP.out (by have := HL.out; omega) hC3 hc3).mono ?_; rintro e w3 ⟨he, hbel⟩; rw [hbeg] at he; subst he))
          go_meet
          case rel => exact ⟨p, rfl, hp, ⟨hat⟩, ⟨hR.out.below hbel⟩, ⟨below_step hB.out hbel⟩, ⟨hK.out.below hbel⟩⟩
        · have hbeg' : beginsI (l.drop p) = false := by simpa using hbeg
          have hs2 : skipL (l.drop (p + 1)) = skipL l := by
            rw [← hs.out]
            have h1 : l.drop p = l[p]'HP.out :: l.drop (p + 1) := List.drop_eq_getElem_cons HP.out
            rw [h1] at hbeg ⊢
            rw [skipL, if_neg hbeg]
          have hw1 : IntKind.i64.wrap ((p : Int) + 1) = (p : Int) + 1 := by have := HL.out; have := HP.out; simp only [i64_w]; unfold wrap64; omega
          go_wp2_with (first | (go_at_call 38; refine (rbegins_n (l.drop p) (BI_drop hBI p) A3 (l.length - p) c3 _ HLP.out (by have := HL.out; omega) hC3 hc3).mono ?_; rintro e w3 ⟨he, hbel⟩; rw [hbeg'] at he; subst he))
          go_roundg (gk - 1)
          case measure => have := hk.out; have := HP.out; omega
          case rel => exact ⟨p + 1, rfl, ⟨by have := hk.out; have := HP.out; omega⟩, ⟨HP.out⟩, ⟨hs2⟩, ⟨hR.out.below hbel⟩, ⟨below_step hB.out hbel⟩, ⟨hK.out.below hbel⟩⟩
      · have d0 : decide ((p : Int) < (l.length : Int)) = false := decide_eq_false (by omega)
        have dn : decide (p < l.length) = false := decide_eq_false h0
        have hat : l.drop p = skipL l := by rw [← hs.out, List.drop_eq_nil_of_le (by omega)]; rfl
        go_wp2_with (fail)
        go_meet
        case rel => exact ⟨p, rfl, hp, ⟨hat⟩, hR, hB, hK⟩
  case rest =>
    obtain ⟨p, rfl, hp, HAT, hR3, hB3, hK3⟩ := hcut
    clear HR
    generalize wc = w3 at hR3 hB3 hK3 ⊢
    obtain ⟨hg3, hbg3, v3, hcell3, hq3⟩ := hR3.out
    obtain ⟨A3, c3, rfl, hcap3, hC3⟩ := Kd.Q_reads hq3
    have k3 : w3.cell? ⟨g, 0, none⟩ = some (.slice A3 l.length c3) := blk_cell hcell3 0
    have f3 : w3.frozen? ⟨g, 0, none⟩ = false := blk_frozen hcell3 0
    obtain ⟨A4, c4, hcut4, hQ4⟩ := BQ_from A3 c3 l p hp.out
    have hml : l.length - p = (skipL l).length := by rw [← HAT.out, List.length_drop]
    rw [hml] at hcut4 hQ4
    rw [HAT.out] at hQ4
    have HML := Aside0.mk hml
    clear hml
    go_upto_region 5 with (fail)
    have hcell4 : (w3.setCell ⟨g, 0, none⟩ (.slice A4 (skipL l).length c4)).heap[g]? = some (.cells (mkM told (.slice A4 (skipL l).length c4)) 42 (0, 0)) := blk_put hcell3 0 _ rfl
    have hq4 : BQ (w3.setCell ⟨g, 0, none⟩ (.slice A4 (skipL l).length c4)) w0.heap.size (fun k => P0 k ∧ k ≠ g) (.slice A4 (skipL l).length c4) (skipL l) := Kd.Q_far (p := ⟨g, 0, none⟩) (hQ4 _ _ _ hq3) (fun k hk => hk.2) _
    have hB4 := Aside0.mk (hB3.out.setCell (p := ⟨g, 0, none⟩) hbg3 (.slice A4 (skipL l).length c4))
    have hK4 := Aside0.mk (hK3.out.setCell (p := ⟨g, 0, none⟩) (.inl hg3) (.slice A4 (skipL l).length c4))
    generalize w3.setCell ⟨g, 0, none⟩ (.slice A4 (skipL l).length c4) = w4 at hcell4 hq4 hB4 hK4 ⊢
    clear k3 f3 hcut4 hQ4 hcell3 hq3 hC3 hcap3 hR3 hB3 hK3
    have hR4 := Aside0.mk (show RM told w4 w0.heap.size P0 g (skipL l) from ⟨hg3, hbg3, _, hcell4, hq4⟩)
    have hcq4 := Kd.Q_reads' hq4
    have hC4 := hcq4.2.2
    have hcap4 := hcq4.2.1
    clear hcq4
    have k4 : w4.cell? ⟨g, 0, none⟩ = some (.slice A4 (skipL l).length c4) := blk_cell hcell4 0
    have t4 : w4.cell? ⟨g, 1, none⟩ = some (.bool told) := blk_cell hcell4 1
    have f4 : w4.frozen? ⟨g, 1, none⟩ = false := blk_frozen hcell4 1
    by_cases h1 : (skipL l).length < l.length ∧ told = false
    · have hN := nextI_syn h1
      obtain ⟨h1a, rfl⟩ := h1
      have da : decide (0 < (p : Int)) = true := decide_eq_true (by have := HML.out; have := hp.out; omega)
      have dan : decide (0 < p) = true := decide_eq_true (by have := HML.out; have := hp.out; omega)
      go_wp2
      go_ret3
      rw [hN]
      exact ⟨none, 0, 0, rfl, rfl, CB_nil _, Nat.le_refl _, ⟨hg3, hbg3, _, blk_put hcell4 1 _ rfl, Kd.Q_far hq4 (fun k hk => hk.2) _⟩, hB4.out.setCell hbg3 _, hK4.out.setCell (.inl hg3) _⟩
    · have hda : (decide (0 < (p : Int)) = false ∧ decide (0 < p) = false) ∨ ((decide (0 < (p : Int)) = true ∧ decide (0 < p) = true) ∧ told = true) := by
        by_cases h2 : 0 < p
        · refine .inr ⟨⟨decide_eq_true (by omega), decide_eq_true h2⟩, ?_⟩
          cases told
          · exact absurd ⟨by have := HML.out; have := hp.out; omega, rfl⟩ h1
          · rfl
        · exact .inl ⟨decide_eq_false (by omega), decide_eq_false h2⟩
      have hN9 := nextI_short h1
      have hNW := nextI_wait h1
      have hNB := nextI_bad h1
      have hNG := nextI_good h1
      clear h1
      by_cases h9 : (skipL l).length < 9
      · have d9 : decide (((skipL l).length : Int) < 9) = true := decide_eq_true (by omega)
        replace hN9 := hN9 h9
        clear h9 hNW hNB hNG
        rcases hda with ⟨da, dan⟩ | ⟨⟨da, dan⟩, rfl⟩
        all_goals
          go_wp2
          go_ret3
          rw [hN9]
          exact ⟨none, 0, 0, rfl, rfl, CB_nil _, Nat.le_refl _, hR4.out, hB4.out, hK4.out⟩
      · have d9 : decide (((skipL l).length : Int) < 9) = false := decide_eq_false (by omega)
        replace hNW := hNW h9
        replace hNB := hNB h9
        replace hNG := hNG h9
        have hsz := rsize_val (skipL l) hBm h9
        have hn := (num3_bounds (skipL l) hBm (by omega)).2
        generalize sizeN (skipL l) = n at hNW hNB hNG hsz hn
        have q2 : 2 < ((skipL l).length : Int) := by omega
        have q3 : 3 < ((skipL l).length : Int) := by omega
        have q4 : 4 < ((skipL l).length : Int) := by omega
        obtain ⟨ad, e4, hx2⟩ := Kd.at_int hC4 2 (by decide) q2
        obtain ⟨ad3, e43, hx3⟩ := Kd.at_int hC4 3 (by decide) q3
        obtain ⟨ad4, e44, hx4⟩ := Kd.at_int hC4 4 (by decide) q4
        obtain rfl : ad = ad3 := by rw [e4] at e43; injection e43
        obtain rfl : ad = ad4 := by rw [e4] at e44; injection e44
        subst e4
        simp only [show (2 : Int).toNat = 2 from rfl, show (3 : Int).toNat = 3 from rfl, show (4 : Int).toNat = 4 from rfl, Nat.reduceMul, Nat.reduceEqDiff, Go.Addr.add, ↓reduceIte] at hx2 hx3 hx4
        have hw13 : IntKind.i64.wrap (13 + (n : Int)) = 13 + (n : Int) := by simp only [i64_w]; unfold wrap64; omega
        have hw9 : IntKind.i64.wrap (9 + (n : Int)) = 9 + (n : Int) := by simp only [i64_w]; unfold wrap64; omega
        replace q2 := eq_true q2
        replace q3 := eq_true q3
        replace q4 := eq_true q4
        have HN_ := Aside0.mk hn
        have H9 := Aside0.mk h9
        clear e43 e44 hN9 hn h9
        rcases hda with ⟨da, dan⟩ | ⟨⟨da, dan⟩, rfl⟩
        all_goals
          go_wp2
          refine start_ (n := 26) (S := fun w' => w'.cell? ⟨g, 0, none⟩ = some (.slice (some ad) (skipL l).length c4) ∧ w'.cell? ⟨ad.block, ad.off + 2, none⟩ = some (.int .u8 (rd (skipL l) 2)) ∧ w'.cell? ⟨ad.block, ad.off + 3, none⟩ = some (.int .u8 (rd (skipL l) 3)) ∧ w'.cell? ⟨ad.block, ad.off + 4, none⟩ = some (.int .u8 (rd (skipL l) 4))) (ds := []) #[false, false, false, false, false, false, false, false, false, false, false, false, false, false, false, false, false, false, false, false, false, false, false, false, false, false] (by kernel_rfl) rfl rfl ⟨k4, hx2, hx3, hx4⟩ (fun hHeld => ?_)
          generalize HW : w4.drew = w5 at hHeld ⊢
          have hheap : w4.heap = w5.heap := by rw [← HW]; rfl
          have hcell5 := hcell4
          rw [hheap] at hcell5
          have hR5 := Aside0.mk (show RM _ w5 w0.heap.size P0 g (skipL l) from by rw [← HW]; exact hR4.out.step (fun _ _ _ => rfl))
          have hq5 : BQ w5 w0.heap.size (fun k => P0 k ∧ k ≠ g) (.slice (some ad) (skipL l).length c4) (skipL l) := by rw [← HW]; exact Kd.Q_drew hq4
          have hB5 := Aside0.mk (show Below w0.heap.size w0 w5 from by rw [← HW]; exact below_drew1 hB4.out)
          have hK5 := Aside0.mk (show Kept w w5 P0 from by rw [← HW]; exact hK4.out.drew)
          have k5 : w5.cell? ⟨g, 0, none⟩ = some (.slice (some ad) (skipL l).length c4) := blk_cell hcell5 0
          have f5 : w5.frozen? ⟨g, 0, none⟩ = false := blk_frozen hcell5 0
          have f51 : w5.frozen? ⟨g, 1, none⟩ = false := blk_frozen hcell5 1
          have hC5 := (Kd.Q_reads' hq5).2.2
          clear hcell4 hq4 hB4 hK4 k4 t4 f4 hx2 hx3 hx4 hC4 hheap hR4
          refine pure_ (i := 0) (N := some 54) (v := ?_) (a' := ?_) #[true, false, false, false, false, false, false, false, false, false, false, false, false, false, false, false, false, false, false, false, false, false, false, false, false, false] rfl rfl (by kernel_rfl) (fun _ _ _ h => h) (Or.inl ⟨by rfl, ?_⟩) ?_ ?_
          rotate_left
          · intro w'
            go_simp
            with_reducible rfl
          rotate_left
          · simp only [Act.put, List.setIfInBounds_toArray, List.set_cons_zero, List.set_cons_succ, i64_w, i32_w]
            rfl
          refine pure_ (i := 1) (N := some 55) (v := ?_) (a' := ?_) #[true, true, false, false, false, false, false, false, false, false, false, false, false, false, false, false, false, false, false, false, false, false, false, false, false, false] rfl rfl (by kernel_rfl) (fun _ _ _ h => h) (Or.inl ⟨by rfl, ?_⟩) ?_ ?_
          rotate_left
          · intro w'
            go_simp
            with_reducible rfl
          rotate_left
          · simp only [Act.put, List.setIfInBounds_toArray, List.set_cons_zero, List.set_cons_succ, i64_w, i32_w]
            rfl
          refine pure_ (i := 2) (N := some 56) (v := ?_) (a' := ?_) #[true, true, true, false, false, false, false, false, false, false, false, false, false, false, false, false, false, false, false, false, false, false, false, false, false, false] rfl rfl (by kernel_rfl) (fun _ _ _ h => h) (Or.inl ⟨by rfl, ?_⟩) ?_ ?_
          rotate_left
          · intro w'
            go_simp
            with_reducible rfl
          rotate_left
          · simp only [Act.put, List.setIfInBounds_toArray, List.set_cons_zero, List.set_cons_succ, i64_w, i32_w]
            rfl
          refine pure_ (i := 8) (N := some 62) (v := ?_) (a' := ?_) #[true, true, true, false, false, false, false, false, true, false, false, false, false, false, false, false, false, false, false, false, false, false, false, false, false, false] rfl rfl (by kernel_rfl) (fun _ _ _ h => h) (Or.inl ⟨by rfl, ?_⟩) ?_ ?_
          rotate_left
          · intro w'
            go_simp
            with_reducible rfl
          rotate_left
          · simp only [Act.put, List.setIfInBounds_toArray, List.set_cons_zero, List.set_cons_succ, i64_w, i32_w]
            rfl
          refine pure_ (i := 9) (N := some 63) (v := ?_) (a' := ?_) #[true, true, true, false, false, false, false, false, true, true, false, false, false, false, false, false, false, false, false, false, false, false, false, false, false, false] rfl rfl (by kernel_rfl) (fun _ _ _ h => h) (Or.inl ⟨by rfl, ?_⟩) ?_ ?_
          rotate_left
          · intro w'
            go_simp
            with_reducible rfl
          rotate_left
          · simp only [Act.put, List.setIfInBounds_toArray, List.set_cons_zero, List.set_cons_succ, i64_w, i32_w]
            rfl
          refine pure_ (i := 10) (N := some 64) (v := ?_) (a' := ?_) #[true, true, true, false, false, false, false, false, true, true, true, false, false, false, false, false, false, false, false, false, false, false, false, false, false, false] rfl rfl (by kernel_rfl) (fun _ _ _ h => h) (Or.inl ⟨by rfl, ?_⟩) ?_ ?_
          rotate_left
          · intro w'
            go_simp
            with_reducible rfl
          rotate_left
          · simp only [Act.put, List.setIfInBounds_toArray, List.set_cons_zero, List.set_cons_succ, i64_w, i32_w]
            rfl
          refine pure_ (i := 17) (N := some 71) (v := ?_) (a' := ?_) #[true, true, true, false, false, false, false, false, true, true, true, false, false, false, false, false, false, true, false, false, false, false, false, false, false, false] rfl rfl (by kernel_rfl) (fun _ _ _ h => h) (Or.inl ⟨by rfl, ?_⟩) ?_ ?_
          rotate_left
          · intro w'
            go_simp
            with_reducible rfl
          rotate_left
          · simp only [Act.put, List.setIfInBounds_toArray, List.set_cons_zero, List.set_cons_succ, i64_w, i32_w]
            rfl
          refine pure_ (i := 18) (N := some 72) (v := ?_) (a' := ?_) #[true, true, true, false, false, false, false, false, true, true, true, false, false, false, false, false, false, true, true, false, false, false, false, false, false, false] rfl rfl (by kernel_rfl) (fun _ _ _ h => h) (Or.inl ⟨by rfl, ?_⟩) ?_ ?_
          rotate_left
          · intro w'
            go_simp
            with_reducible rfl
          rotate_left
          · simp only [Act.put, List.setIfInBounds_toArray, List.set_cons_zero, List.set_cons_succ, i64_w, i32_w]
            rfl
          refine pure_ (i := 19) (N := some 73) (v := ?_) (a' := ?_) #[true, true, true, false, false, false, false, false, true, true, true, false, false, false, false, false, false, true, true, true, false, false, false, false, false, false] rfl rfl (by kernel_rfl) (fun _ _ _ h => h) (Or.inl ⟨by rfl, ?_⟩) ?_ ?_
          rotate_left
          · intro w'
            go_simp
            with_reducible rfl
          rotate_left
          · simp only [Act.put, List.setIfInBounds_toArray, List.set_cons_zero, List.set_cons_succ, i64_w, i32_w]
            rfl
          refine take_ (i := 3) (N := some 57) (v := ?_) (a' := ?_) #[true, true, true, true, false, false, false, false, true, true, true, false, false, false, false, false, false, true, true, true, false, false, false, false, false, false] rfl rfl (by kernel_rfl) (fun _ _ _ h => h) (Or.inl ⟨by rfl, ?_⟩) hHeld ?_ ?_
          rotate_left
          · rintro w' ⟨s0, s1, s2, s3⟩
            go_simp
            with_reducible rfl
          rotate_left
          · simp only [Act.put, List.setIfInBounds_toArray, List.set_cons_zero, List.set_cons_succ, i64_w, i32_w]
            rfl
          refine pure_ (i := 4) (N := some 58) (v := ?_) (a' := ?_) #[true, true, true, true, true, false, false, false, true, true, true, false, false, false, false, false, false, true, true, true, false, false, false, false, false, false] rfl rfl (by kernel_rfl) (fun _ _ _ h => h) (Or.inl ⟨by rfl, ?_⟩) ?_ ?_
          rotate_left
          · intro w'
            go_simp
            with_reducible rfl
          rotate_left
          · simp only [Act.put, List.setIfInBounds_toArray, List.set_cons_zero, List.set_cons_succ, i64_w, i32_w]
            rfl
          refine take_ (i := 5) (N := some 59) (v := ?_) (a' := ?_) #[true, true, true, true, true, true, false, false, true, true, true, false, false, false, false, false, false, true, true, true, false, false, false, false, false, false] rfl rfl (by kernel_rfl) (fun _ _ _ h => h) (Or.inl ⟨by rfl, ?_⟩) hHeld ?_ ?_
          rotate_left
          · rintro w' ⟨s0, s1, s2, s3⟩
            go_simp
            with_reducible rfl
          rotate_left
          · simp only [Act.put, List.setIfInBounds_toArray, List.set_cons_zero, List.set_cons_succ, i64_w, i32_w]
            rfl
          refine pure_ (i := 6) (N := some 60) (v := ?_) (a' := ?_) #[true, true, true, true, true, true, true, false, true, true, true, false, false, false, false, false, false, true, true, true, false, false, false, false, false, false] rfl rfl (by kernel_rfl) (fun _ _ _ h => h) (Or.inl ⟨by rfl, ?_⟩) ?_ ?_
          rotate_left
          · intro w'
            go_simp
            with_reducible rfl
          rotate_left
          · simp only [Act.put, List.setIfInBounds_toArray, List.set_cons_zero, List.set_cons_succ, i64_w, i32_w]
            rfl
          refine pure_ (i := 7) (N := some 61) (v := ?_) (a' := ?_) #[true, true, true, true, true, true, true, true, true, true, true, false, false, false, false, false, false, true, true, true, false, false, false, false, false, false] rfl rfl (by kernel_rfl) (fun _ _ _ h => h) (Or.inl ⟨by rfl, ?_⟩) ?_ ?_
          rotate_left
          · intro w'
            go_simp
            with_reducible rfl
          rotate_left
          · simp only [Act.put, List.setIfInBounds_toArray, List.set_cons_zero, List.set_cons_succ, i64_w, i32_w]
            rfl
          refine take_ (i := 11) (N := some 65) (v := ?_) (a' := ?_) #[true, true, true, true, true, true, true, true, true, true, true, true, false, false, false, false, false, true, true, true, false, false, false, false, false, false] rfl rfl (by kernel_rfl) (fun _ _ _ h => h) (Or.inl ⟨by rfl, ?_⟩) hHeld ?_ ?_
          rotate_left
          · rintro w' ⟨s0, s1, s2, s3⟩
            go_simp
            with_reducible rfl
          rotate_left
          · simp only [Act.put, List.setIfInBounds_toArray, List.set_cons_zero, List.set_cons_succ, i64_w, i32_w]
            rfl
          refine pure_ (i := 12) (N := some 66) (v := ?_) (a' := ?_) #[true, true, true, true, true, true, true, true, true, true, true, true, true, false, false, false, false, true, true, true, false, false, false, false, false, false] rfl rfl (by kernel_rfl) (fun _ _ _ h => h) (Or.inl ⟨by rfl, ?_⟩) ?_ ?_
          rotate_left
          · intro w'
            go_simp
            with_reducible rfl
          rotate_left
          · simp only [Act.put, List.setIfInBounds_toArray, List.set_cons_zero, List.set_cons_succ, i64_w, i32_w]
            rfl
          refine take_ (i := 13) (N := some 67) (v := ?_) (a' := ?_) #[true, true, true, true, true, true, true, true, true, true, true, true, true, true, false, false, false, true, true, true, false, false, false, false, false, false] rfl rfl (by kernel_rfl) (fun _ _ _ h => h) (Or.inl ⟨by rfl, ?_⟩) hHeld ?_ ?_
          rotate_left
          · rintro w' ⟨s0, s1, s2, s3⟩
            go_simp
            with_reducible rfl
          rotate_left
          · simp only [Act.put, List.setIfInBounds_toArray, List.set_cons_zero, List.set_cons_succ, i64_w, i32_w]
            rfl
          refine pure_ (i := 14) (N := some 68) (v := ?_) (a' := ?_) #[true, true, true, true, true, true, true, true, true, true, true, true, true, true, true, false, false, true, true, true, false, false, false, false, false, false] rfl rfl (by kernel_rfl) (fun _ _ _ h => h) (Or.inl ⟨by rfl, ?_⟩) ?_ ?_
          rotate_left
          · intro w'
            go_simp
            with_reducible rfl
          rotate_left
          · simp only [Act.put, List.setIfInBounds_toArray, List.set_cons_zero, List.set_cons_succ, i64_w, i32_w]
            rfl
          refine pure_ (i := 15) (N := some 69) (v := ?_) (a' := ?_) #[true, true, true, true, true, true, true, true, true, true, true, true, true, true, true, true, false, true, true, true, false, false, false, false, false, false] rfl rfl (by kernel_rfl) (fun _ _ _ h => h) (Or.inl ⟨by rfl, ?_⟩) ?_ ?_
          rotate_left
          · intro w'
            go_simp
            with_reducible rfl
          rotate_left
          · simp only [Act.put, List.setIfInBounds_toArray, List.set_cons_zero, List.set_cons_succ, i64_w, i32_w]
            rfl
          refine pure_ (i := 16) (N := some 70) (v := ?_) (a' := ?_) #[true, true, true, true, true, true, true, true, true, true, true, true, true, true, true, true, true, true, true, true, false, false, false, false, false, false] rfl rfl (by kernel_rfl) (fun _ _ _ h => h) (Or.inl ⟨by rfl, ?_⟩) ?_ ?_
          rotate_left
          · intro w'
            go_simp
            with_reducible rfl
          rotate_left
          · simp only [Act.put, List.setIfInBounds_toArray, List.set_cons_zero, List.set_cons_succ, i64_w, i32_w]
            rfl
          refine take_ (i := 20) (N := some 74) (v := ?_) (a' := ?_) #[true, true, true, true, true, true, true, true, true, true, true, true, true, true, true, true, true, true, true, true, true, false, false, false, false, false] rfl rfl (by kernel_rfl) (fun _ _ _ h => h) (Or.inl ⟨by rfl, ?_⟩) hHeld ?_ ?_
          rotate_left
          · rintro w' ⟨s0, s1, s2, s3⟩
            go_simp
            with_reducible rfl
          rotate_left
          · simp only [Act.put, List.setIfInBounds_toArray, List.set_cons_zero, List.set_cons_succ, i64_w, i32_w]
            rfl
          refine pure_ (i := 21) (N := some 75) (v := ?_) (a' := ?_) #[true, true, true, true, true, true, true, true, true, true, true, true, true, true, true, true, true, true, true, true, true, true, false, false, false, false] rfl rfl (by kernel_rfl) (fun _ _ _ h => h) (Or.inl ⟨by rfl, ?_⟩) ?_ ?_
          rotate_left
          · intro w'
            go_simp
            with_reducible rfl
          rotate_left
          · simp only [Act.put, List.setIfInBounds_toArray, List.set_cons_zero, List.set_cons_succ, i64_w, i32_w]
            rfl
          refine take_ (i := 22) (N := some 76) (v := ?_) (a' := ?_) #[true, true, true, true, true, true, true, true, true, true, true, true, true, true, true, true, true, true, true, true, true, true, true, false, false, false] rfl rfl (by kernel_rfl) (fun _ _ _ h => h) (Or.inl ⟨by rfl, ?_⟩) hHeld ?_ ?_
          rotate_left
          · rintro w' ⟨s0, s1, s2, s3⟩
            go_simp
            with_reducible rfl
          rotate_left
          · simp only [Act.put, List.setIfInBounds_toArray, List.set_cons_zero, List.set_cons_succ, i64_w, i32_w]
            rfl
          refine pure_ (i := 23) (N := some 77) (v := ?_) (a' := ?_) #[true, true, true, true, true, true, true, true, true, true, true, true, true, true, true, true, true, true, true, true, true, true, true, true, false, false] rfl rfl (by kernel_rfl) (fun _ _ _ h => h) (Or.inl ⟨by rfl, ?_⟩) ?_ ?_
          rotate_left
          · intro w'
            go_simp
            with_reducible rfl
          rotate_left
          · simp only [Act.put, List.setIfInBounds_toArray, List.set_cons_zero, List.set_cons_succ, i64_w, i32_w]
            rfl
          refine pure_ (i := 24) (N := some 78) (v := ?_) (a' := ?_) #[true, true, true, true, true, true, true, true, true, true, true, true, true, true, true, true, true, true, true, true, true, true, true, true, true, false] rfl rfl (by kernel_rfl) (fun _ _ _ h => h) (Or.inl ⟨by rfl, ?_⟩) ?_ ?_
          rotate_left
          · intro w'
            go_simp
            with_reducible rfl
          rotate_left
          · simp only [Act.put, List.setIfInBounds_toArray, List.set_cons_zero, List.set_cons_succ, i64_w, i32_w]
            rfl
          refine pure_ (i := 25) (N := some 6) (v := ?_) (a' := ?_) #[true, true, true, true, true, true, true, true, true, true, true, true, true, true, true, true, true, true, true, true, true, true, true, true, true, true] rfl rfl (by kernel_rfl) (fun _ _ _ h => h) (Or.inl ⟨by rfl, ?_⟩) ?_ ?_
          rotate_left
          · intro w'
            go_simp
            with_reducible rfl
          rotate_left
          · simp only [Act.put, List.setIfInBounds_toArray, List.set_cons_zero, List.set_cons_succ, i64_w, i32_w]
            rfl
          refine done_ (by kernel_rfl) ?_
          (try rw [hsz])
          by_cases hw : (skipL l).length < 13 + n
          · have dw : decide (((skipL l).length : Int) < 13 + (n : Int)) = true := decide_eq_true (by omega)
            have dwn : decide ((skipL l).length < 13 + n) = true := decide_eq_true hw
            go_wp2
            go_ret3
            rw [hNW hw]
            exact ⟨none, 0, 0, rfl, rfl, CB_nil _, Nat.le_refl _, hR5.out, hB5.out, hK5.out⟩
          · have dw : decide (((skipL l).length : Int) < 13 + (n : Int)) = false := decide_eq_false (by omega)
            have dwn : decide ((skipL l).length < 13 + n) = false := decide_eq_false hw
            replace hNB := hNB hw
            replace hNG := hNG hw
            obtain ⟨hcutT, hCT⟩ := CB_to (some ad) c4 (skipL l) (13 + n) (by omega) hcap4
            obtain ⟨AR, cR, hcutR, hQR⟩ := BQ_from (some ad) c4 (skipL l) (13 + n) (by omega)
            have hcutT' : ∀ W, (Instr.slice 22 (.slice (some ad) (skipL l).length c4) none (some (.int .i64 (13 + (n : Int)))) none).run Try.prog W = .ok (.slice (some ad) (13 + n) c4) W := fun W => by
              rw [show (13 + (n : Int)) = ((13 + n : Nat) : Int) by omega]; exact hcutT W
            have hcutR' : ∀ W, (Instr.slice 22 (.slice (some ad) (skipL l).length c4) (some (.int .i64 (13 + (n : Int)))) none none).run Try.prog W = .ok (.slice AR ((skipL l).length - (13 + n)) cR) W := fun W => by
              rw [show (13 + (n : Int)) = ((13 + n : Nat) : Int) by omega]; exact hcutR W
            have HTL := Aside0.mk (show ((skipL l).take (13 + n)).length = 13 + n from by rw [List.length_take]; omega)
            have HWW := Aside0.mk hw
            have HCT_ := Aside0.mk hCT
            clear hw hcutT hcutR hCT hcap4
            go_upto_region 17 with (first | ((with_reducible refine gate_builtin (b := .append) (xs := #[.tmp 87, .tmp 94]) rfl ?_); at_builtin; refine Kd.R_append_rows_wide (Kd.int .u8) (w0 := w5) w5.heap.size rfl (.tmp 87) (.tmp 94) 22 5 (.int .u8 0) 1 rfl Try.underlying22 info5 rfl (by decide) (by omega) (.slice none 0 0) [] ((skipL l).take (13 + n)) (some ad) (13 + n) c4 (fun _ => True) (fun _ => False) rfl rfl (Kd.R_nil _ _ _ _ _) (HCT_.out _ hC5) (fun _ _ h => h) (fun _ h => h.elim) (fun _ _ => trivial) (Below.refl _ _) (Nat.le_refl _) (by have := HN_.out; simp only [List.length_nil]; omega) ?_; intro v7 w7 hR7 hB7 hg7 hat7; obtain ⟨A7, c7, e7⟩ := Kd.R_slice hR7; rw [List.nil_append] at hR7 e7; rw [HTL.out] at e7; subst e7; have hcell7 := blk_below hcell5 hB7; have hq7 := Kd.Q_below hq5 hB7; have hB8 := Aside0.mk (below_step hB5.out hB7); have hK8 := Aside0.mk (hK5.out.below hB7); have k7 : w7.cell? ⟨g, 0, none⟩ = some (.slice (some ad) (skipL l).length c4) := blk_cell hcell7 0; have f7 : w7.frozen? ⟨g, 0, none⟩ = false := blk_frozen hcell7 0; have f71 : w7.frozen? ⟨g, 1, none⟩ = false := blk_frozen hcell7 1; have t71 := (blk_cell hcell7 1).trans (show _ = some (Value.bool _) from rfl)))
            have hcell8 : ((w7.setCell ⟨g, 0, none⟩ (.slice AR ((skipL l).length - (13 + n)) cR)).setCell ⟨g, 1, none⟩ (.bool false)).heap[g]? = some (.cells (mkM false (.slice AR ((skipL l).length - (13 + n)) cR)) 42 (0, 0)) := blk_put (blk_put hcell7 0 _ rfl) 1 _ rfl
            have hq8 := Kd.Q_far (p := ⟨g, 1, none⟩) (Kd.Q_far (p := ⟨g, 0, none⟩) (hQR _ _ _ hq7) (fun k hk => hk.2) (.slice AR ((skipL l).length - (13 + n)) cR)) (fun k hk => hk.2) (.bool false)
            have hB9 := Aside0.mk ((hB8.out.setCell (p := ⟨g, 0, none⟩) hbg3 (.slice AR ((skipL l).length - (13 + n)) cR)).setCell (p := ⟨g, 1, none⟩) hbg3 (.bool false))
            have hK9 := Aside0.mk ((hK8.out.setCell (p := ⟨g, 0, none⟩) (.inl hg3) (.slice AR ((skipL l).length - (13 + n)) cR)).setCell (p := ⟨g, 1, none⟩) (.inl hg3) (.bool false))
            have hR7' := Kd.R_mono (Kd.R_bound hR7) (ok' := fun k => k ≠ g) (fun k hk => by have h1 := hk.2.1; have h2 := blk_lt hcell5; omega)
            have hR8 := Kd.R_far (p := ⟨g, 1, none⟩) (Kd.R_far (p := ⟨g, 0, none⟩) hR7' (fun k hk => hk) (.slice AR ((skipL l).length - (13 + n)) cR)) (fun k hk => hk) (.bool false)
            generalize (w7.setCell ⟨g, 0, none⟩ (.slice AR ((skipL l).length - (13 + n)) cR)).setCell ⟨g, 1, none⟩ (.bool false) = w8 at hcell8 hq8 hB9 hK9 hR8 ⊢
            have hRT := Kd.R_reads' hR8
            have hCT := hRT.2.2
            have hcT := hRT.2.1
            clear hRT hR7' hR7 hat7 hg7 hcutT' hcutR'
            have HFE := Aside0.mk (show ((skipL l).take (13 + n)).take (9 + n) = (skipL l).take (9 + n) from by rw [List.take_take]; congr 1; omega)
            have hBT := BI_take hBm (13 + n)
            obtain ⟨T, hT⟩ : ∃ T, T = (skipL l).take (13 + n) := ⟨_, rfl⟩
            rw [← hT] at HTL HFE hCT hNB hNG hBT
            rw [← HFE.out] at hNB hNG
            rw [← HTL.out] at hcT
            obtain ⟨hcutA, hCA⟩ := CB_to A7 c7 T (9 + n) (by rw [HTL.out]; omega) hcT
            obtain ⟨AS, cS, hcutS, hCS, hcS⟩ := CB_from A7 c7 T (9 + n) (by rw [HTL.out]; omega) hcT
            obtain ⟨AM, cM, hcutM, hCM, hcM⟩ := CB_mid A7 c7 T 9 (9 + n) (by omega) (by rw [HTL.out]; omega) hcT
            have hCA2 := hCA _ hCT
            have hCS2 := hCS _ hCT
            have hCM2 := hCM _ hCT
            rw [HTL.out] at hcutA hcutS hcutM hCS2 hcS
            rw [show 13 + n - (9 + n) = 4 by omega] at hcutS hCS2 hcS
            rw [show 9 + n - 9 = n by omega] at hcutM hCM2 hcM
            have hcutA' : ∀ W, (Instr.slice 22 (.slice A7 (13 + n) c7) none (some (.int .i64 (9 + (n : Int)))) none).run Try.prog W = .ok (.slice A7 (9 + n) c7) W := fun W => by
              rw [show (9 + (n : Int)) = ((9 + n : Nat) : Int) by omega]; exact hcutA W
            have hcutS' : ∀ W, (Instr.slice 22 (.slice A7 (13 + n) c7) (some (.int .i64 (9 + (n : Int)))) none none).run Try.prog W = .ok (.slice AS 4 cS) W := fun W => by
              rw [show (9 + (n : Int)) = ((9 + n : Nat) : Int) by omega]; exact hcutS W
            have hcutM' : ∀ W, (Instr.slice 22 (.slice A7 (13 + n) c7) (some (.int .i64 9)) (some (.int .i64 (9 + (n : Int)))) none).run Try.prog W = .ok (.slice AM n cM) W := fun W => by
              rw [show (9 + (n : Int)) = ((9 + n : Nat) : Int) by omega]; exact hcutM W
            have HCT := Aside0.mk hcT
            have HCM := Aside0.mk hcM
            have HSE := Aside0.mk (str_eq (crc4 (T.take (9 + n))) (T.drop (9 + n)) (crc4_BI _) (BI_drop hBT _))
            clear hcutA hcutS hcutM hT hcT hcM hCA hCS hCM hR8 hCT HCT_
            have HLA := Aside0.mk (show (T.take (9 + n)).length = 9 + n from by rw [List.length_take, HTL.out]; omega)
            go_wp2_with (fail)
            refine start_ (n := 12) (S := fun w' => CB w' AS 4 (T.drop (9 + n))) (ds := []) #[false, false, false, false, false, false, false, false, false, false, false, false] (by kernel_rfl) rfl rfl ((Kd.C_drew hCS2)) (fun hHeld => ?_)
            generalize HW : w8.drew = w9 at hHeld ⊢
            have hcell9 : w9.heap[g]? = some (.cells (mkM false (.slice AR ((skipL l).length - (13 + n)) cR)) 42 (0, 0)) := by rw [← HW]; exact hcell8
            have hq9 : BQ w9 w0.heap.size (fun k => P0 k ∧ k ≠ g) (.slice AR ((skipL l).length - (13 + n)) cR) ((skipL l).drop (13 + n)) := by rw [← HW]; exact Kd.Q_drew hq8
            have hB10 := Aside0.mk (show Below w0.heap.size w0 w9 from by rw [← HW]; exact below_drew1 hB9.out)
            have hK10 := Aside0.mk (show Kept w w9 P0 from by rw [← HW]; exact hK9.out.drew)
            have hCA9 : CB w9 A7 (9 + n) (T.take (9 + n)) := by rw [← HW]; exact Kd.C_drew hCA2
            have hCM9 : CB w9 AM n ((T.take (9 + n)).drop 9) := by rw [← HW]; exact Kd.C_drew hCM2
            clear hcell8 hq8 hB9 hK9 hCA2 hCM2
            refine pure_ (i := 0) (N := some 109) (v := ?_) (a' := ?_) #[true, false, false, false, false, false, false, false, false, false, false, false] rfl rfl (by kernel_rfl) (fun _ _ _ h => h) (Or.inl ⟨by rfl, ?_⟩) ?_ ?_
            rotate_left
            · intro w'
              go_simp
              with_reducible rfl
            rotate_left
            · simp only [Act.put, List.setIfInBounds_toArray, List.set_cons_zero, List.set_cons_succ, i64_w, i32_w]
              rfl
            refine pure_ (i := 1) (N := some 110) (v := ?_) (a' := ?_) #[true, true, false, false, false, false, false, false, false, false, false, false] rfl rfl (by kernel_rfl) (fun _ _ _ h => h) (Or.inl ⟨by rfl, ?_⟩) ?_ ?_
            rotate_left
            · intro w'
              go_simp
              with_reducible rfl
            rotate_left
            · simp only [Act.put, List.setIfInBounds_toArray, List.set_cons_zero, List.set_cons_succ, i64_w, i32_w]
              rfl
            refine pure_ (i := 2) (N := some 111) (v := ?_) (a' := ?_) #[true, true, true, false, false, false, false, false, false, false, false, false] rfl rfl (by kernel_rfl) (fun _ _ _ h => h) (Or.inl ⟨by rfl, ?_⟩) ?_ ?_
            rotate_left
            · intro w'
              go_simp
              with_reducible rfl
            rotate_left
            · simp only [Act.put, List.setIfInBounds_toArray, List.set_cons_zero, List.set_cons_succ, i64_w, i32_w]
              rfl
            refine pure_ (i := 3) (N := some 112) (v := ?_) (a' := ?_) #[true, true, true, true, false, false, false, false, false, false, false, false] rfl rfl (by kernel_rfl) (fun _ _ _ h => h) (Or.inl ⟨by rfl, ?_⟩) ?_ ?_
            rotate_left
            · intro w'
              go_simp
              with_reducible rfl
            rotate_left
            · simp only [Act.put, List.setIfInBounds_toArray, List.set_cons_zero, List.set_cons_succ, i64_w, i32_w]
              rfl
            refine pure_ (i := 6) (N := some 115) (v := ?_) (a' := ?_) #[true, true, true, true, false, false, true, false, false, false, false, false] rfl rfl (by kernel_rfl) (fun _ _ _ h => h) (Or.inl ⟨by rfl, ?_⟩) ?_ ?_
            rotate_left
            · intro w'
              go_simp
              with_reducible rfl
            rotate_left
            · simp only [Act.put, List.setIfInBounds_toArray, List.set_cons_zero, List.set_cons_succ, i64_w, i32_w]
              rfl
            refine pure_ (i := 7) (N := some 116) (v := ?_) (a' := ?_) #[true, true, true, true, false, false, true, true, false, false, false, false] rfl rfl (by kernel_rfl) (fun _ _ _ h => h) (Or.inl ⟨by rfl, ?_⟩) ?_ ?_
            rotate_left
            · intro w'
              go_simp
              with_reducible rfl
            rotate_left
            · simp only [Act.put, List.setIfInBounds_toArray, List.set_cons_zero, List.set_cons_succ, i64_w, i32_w]
              rfl
            refine pure_ (i := 8) (N := some 117) (v := ?_) (a' := ?_) #[true, true, true, true, false, false, true, true, true, false, false, false] rfl rfl (by kernel_rfl) (fun _ _ _ h => h) (Or.inl ⟨by rfl, ?_⟩) ?_ ?_
            rotate_left
            · intro w'
              go_simp
              with_reducible rfl
            rotate_left
            · simp only [Act.put, List.setIfInBounds_toArray, List.set_cons_zero, List.set_cons_succ, i64_w, i32_w]
              rfl
            refine pure_ (i := 9) (N := some 118) (v := ?_) (a' := ?_) #[true, true, true, true, false, false, true, true, true, true, false, false] rfl rfl (by kernel_rfl) (fun _ _ _ h => h) (Or.inl ⟨by rfl, ?_⟩) ?_ ?_
            rotate_left
            · intro w'
              go_simp
              with_reducible rfl
            rotate_left
            · simp only [Act.put, List.setIfInBounds_toArray, List.set_cons_zero, List.set_cons_succ, i64_w, i32_w]
              rfl
            refine take_ (i := 10) (N := some 119) (v := ?_) (a' := ?_) #[true, true, true, true, false, false, true, true, true, true, true, false] rfl rfl (by kernel_rfl) (fun _ _ _ h => h) (Or.inl ⟨by rfl, ?_⟩) hHeld ?_ ?_
            rotate_left
            · intro w' s0
              have hq_ := Kd.C_string (P := Try.prog) (c := cS) Try.underlying22 Try.underlying5 Try.underlying9 s0
              go_simp
              with_reducible rfl
            rotate_left
            · simp only [Act.put, List.setIfInBounds_toArray, List.set_cons_zero, List.set_cons_succ, i64_w, i32_w]
              rfl
            refine one_ (i := 4) (N := some 113) #[true, true, true, true, true, false, true, true, true, true, true, false] rfl rfl (by kernel_rfl) (by decide) (fun K hK => ?_)
            refine goes_ Try.func30 (by kernel_rfl) rfl #[.slice A7 (9 + n) c7] (by rfl) rfl rfl (by simp only [List.map_toArray, List.map_cons, List.map_nil]; rfl) ?_
            with_reducible refine (rsum_n (T.take (9 + n)) (BI_take hBT (9 + n)) A7 (9 + n) c7 _ HLA.out (by have := HWW.out; have := HL.out; have := HLE.out; omega) hCA9 (by have := HCT.out; have := HTL.out; omega)).mono ?_
            rintro e w10 ⟨v10, rfl, hR10, hb10⟩
            refine ⟨_, rfl, ?_⟩
            have hcv := own_string (P := Try.prog) Try.underlying22 Try.underlying5 Try.underlying9 (Kd.own_of_R hR10)
            refine hK.out _ _ ((Kd.C_below hHeld hb10)) (fun hHeld => ?_)
            clear hK K
            refine norm_ (a' := ?_) ?_ ?_
            rotate_left
            · show Act.put _ (some 113) _ = _
              simp only [Act.put, List.setIfInBounds_toArray, List.set_cons_zero, List.set_cons_succ, i64_w, i32_w]
              rfl
            refine one_ (i := 5) (N := some 114) #[true, true, true, true, true, true, true, true, true, true, true, false] rfl rfl (by kernel_rfl) (by decide) (fun K hK => ?_)
            refine value_ (w1 := ?_) (v := ?_) (by rfl) rfl ?_ ?_
            rotate_left 2
            · (go_simp; constructor <;> rfl)
            refine hK.out _ _ (hHeld) (fun hHeld => ?_)
            clear hK K
            refine norm_ (a' := ?_) ?_ ?_
            rotate_left
            · show Act.put _ (some 114) _ = _
              simp only [Act.put, List.setIfInBounds_toArray, List.set_cons_zero, List.set_cons_succ, i64_w, i32_w]
              rfl
            refine pure_ (i := 11) (N := some 120) (v := ?_) (a' := ?_) #[true, true, true, true, true, true, true, true, true, true, true, true] rfl rfl (by kernel_rfl) (fun _ _ _ h => h) (Or.inl ⟨by rfl, ?_⟩) ?_ ?_
            rotate_left
            · intro w'
              go_simp
              with_reducible rfl
            rotate_left
            · simp only [Act.put, List.setIfInBounds_toArray, List.set_cons_zero, List.set_cons_succ, i64_w, i32_w]
              rfl
            refine done_ (by kernel_rfl) ?_
            clear hHeld
            by_cases hc : crc4 (T.take (9 + n)) = T.drop (9 + n)
            · have b1 : ((strOfNums (crc4 (T.take (9 + n)))).toList == (strOfNums (T.drop (9 + n))).toList) = true := by rw [HSE.out]; exact decide_eq_true hc
              have b2 : ((strOfNums (crc4 (T.take (9 + n)))).toList != (strOfNums (T.drop (9 + n))).toList) = false := by rw [bne, b1]; rfl
              have b3 : (!((strOfNums (crc4 (T.take (9 + n)))).toList == (strOfNums (T.drop (9 + n))).toList)) = false := by rw [b1]; rfl
              clear b1 b2
              replace hNG := Aside0.mk (hNG hc)
              clear hc hNB hcv
              go_wp2
              all_goals first | (rename_i h_; exact absurd (b3.symm.trans h_) (by decide)) | (go_ret3; rw [hNG.out]; exact ⟨AM, n, cM, rfl, by rw [List.length_drop, HLA.out]; omega, Kd.C_below hCM9 hb10, HCM.out, ⟨hg3, hbg3, _, blk_below hcell9 hb10, Kd.Q_below hq9 hb10⟩, below_step hB10.out hb10, hK10.out.below hb10⟩)
            · have b1 : ((strOfNums (crc4 (T.take (9 + n)))).toList == (strOfNums (T.drop (9 + n))).toList) = false := by rw [HSE.out]; exact decide_eq_false hc
              have b2 : ((strOfNums (crc4 (T.take (9 + n)))).toList != (strOfNums (T.drop (9 + n))).toList) = true := by rw [bne, b1]; rfl
              have b3 : (!((strOfNums (crc4 (T.take (9 + n)))).toList == (strOfNums (T.drop (9 + n))).toList)) = true := by rw [b1]; rfl
              clear b1 b2
              replace hNB := Aside0.mk (hNB hc)
              clear hc hNG hcv
              go_wp2
              all_goals first | (rename_i h_; exact absurd (b3.symm.trans h_) (by decide)) | (go_ret3; rw [hNB.out]; exact ⟨none, 0, 0, rfl, rfl, CB_nil _, Nat.le_refl _, ⟨hg3, hbg3, _, blk_below hcell9 hb10, Kd.Q_below hq9 hb10⟩, below_step hB10.out hb10, hK10.out.below hb10⟩)
end Go.Proofs.Ytkndghbognhocaa.X
