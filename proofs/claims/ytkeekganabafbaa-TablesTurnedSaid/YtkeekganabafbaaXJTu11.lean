import Derived.Test.YtkeekganabafbaaXJTu10
/- Texts of this claim, joined. -/
section
namespace Go.Proofs.Ytkeekganabafbaa.X
open Go.RowKit Go.Proofs.YtkeekganabafbaaW.PrintWords Go.Proofs.YtkeekganabafbaaW.PrintLast Go.Proofs.YtkeekganabafbaaW.PrintMore
attribute [local go_sem] max2_int min2_int max_two min_two max_three min_three max_four min_four
set_option linter.unusedVariables false
set_option linter.unusedSimpArgs false
set_option maxHeartbeats 8000000 in
set_option maxRecDepth 100000 in
theorem eqf27 (X Y : List (List Int)) (A B : Option Addr) (n c m d : Nat) (w : World) (hn : X.length = n) (hC : Kd.C (Kd.slice 3 (Kd.int .i64)) w A n X) (hc : n ≤ c) (hm : Y.length = m) (hD : Kd.C (Kd.slice 3 (Kd.int .i64)) w B m Y) (hd : m ≤ d) (hl : n ≤ 9223372036854775806) (hX : ∀ r ∈ X, r.length ≤ 9223372036854775806) :
    Calls Try.prog 27 #[.slice A n c, .slice B m d, .func (.func 26) #[] #[]] w fun e w' => ∃ r : Bool, e = .returned (.bool r) ∧ (r = true ↔ X = Y) ∧ Below w.heap.size w w' := by
  subst hn
  subst hm
  have HL := Aside0.mk hl
  have HX := Aside0.mk hX
  clear hl hX
  by_cases hlen : Y.length = X.length
  · have d0 : ((X.length : Int) != (Y.length : Int)) = false := bne_eq_false_iff_eq.mpr (by omega)
    have HLE := Aside0.mk hlen
    clear hlen
    go_enter Try.func27, Try.ntmps27
    go_wp2_with (fail)
    go_loopg [17] (X.length + 1) (fun kq v17 w' => ∃ i : Int, v17 = .int .i64 i ∧ Aside0 (0 ≤ i) ∧ Aside0 (i ≤ (X.length : Int)) ∧ Aside0 ((kq : Int) + i = (X.length : Int) + 1) ∧ Aside0 (X.drop i.toNat = Y.drop i.toNat ↔ X = Y) ∧ Aside0 (Below w.heap.size w w'))
    case atStart => exact ⟨0, rfl, ⟨by decide⟩, ⟨by omega⟩, ⟨by omega⟩, ⟨Iff.rfl⟩, ⟨Below.refl _ _⟩⟩
    clear d0
    obtain ⟨i, rfl, hi0, hi1, hk, ha, hB⟩ := hrel
    have hkk := hk.out
    by_cases hlt : i < (X.length : Int)
    · have l1 : decide (i < (X.length : Int)) = true := decide_eq_true hlt
      have hwi : IntKind.i64.wrap (i + 1) = i + 1 := by have := hi0.out; have := HL.out; simp only [i64_w]; unfold wrap64; omega
      have p1 := eq_true hi0.out
      have q1 := eq_true hlt
      have q2 : (i < (Y.length : Int)) = True := eq_true (by rw [HLE.out]; exact hlt)
      obtain ⟨ad, A1, c1, ea, hx, hl1, hC1⟩ := at_L4 (Kd.C_belowB hC hB.out rfl) i hi0.out hlt
      subst ea
      obtain ⟨bd, B1, d1, eb, hy, hl2, hD1⟩ := at_L4 (Kd.C_belowB hD hB.out rfl) i hi0.out (by rw [HLE.out]; exact hlt)
      subst eb
      have hdx := drop_at X ([] : List Int) i hi0.out hlt
      have hdy := drop_at Y ([] : List Int) i hi0.out (by rw [HLE.out]; exact hlt)
      have HLT := Aside0.mk hlt
      have HA := Aside0.mk (show (rd_L4 X i :: X.drop (i + 1).toNat = rd_L4 Y i :: Y.drop (i + 1).toNat) ↔ X = Y from by rw [← ha.out, hdx, hdy]; rfl)
      have HRL := Aside0.mk (show (rd_L4 X i).length ≤ 9223372036854775806 from HX.out _ (by have : X.drop i.toNat = rd_L4 X i :: X.drop (i + 1).toNat := hdx; exact List.mem_of_mem_drop (i := i.toNat) (by rw [this]; simp)))
      clear hdx hdy hlt ha
      generalize rd_L4 X i = r1 at hx hl1 hC1 HA HRL
      generalize rd_L4 Y i = r2 at hy hl2 hD1 HA
      have HC1 := Aside0.mk hC1
      have HD1 := Aside0.mk hD1
      have H1 := Aside0.mk hl1
      have H2 := Aside0.mk hl2
      clear hC1 hD1 hl1 hl2
      by_cases he : r1 = r2
      · have HE := Aside0.mk he
        clear he
        go_wp2_with (first | (go_at_call 26; refine (eqz_n r1 r2 A1 B1 r1.length c1 r2.length d1 _ rfl HC1.out H1.out rfl HD1.out H2.out HRL.out).mono ?_; rintro e w1 ⟨r, rfl, hr, hb1⟩; have hz : r = true := hr.2 HE.out; subst hz; have HB1 := Aside0.mk (below_step hB.out hb1)))
        go_roundg (gk - 1)
        case measure => have := HLT.out; have := hi0.out; omega
        case rel => exact ⟨i + 1, rfl, ⟨by have := hi0.out; omega⟩, ⟨by have := HLT.out; omega⟩, ⟨by have := HLT.out; omega⟩, ⟨by rw [← HA.out, HE.out]; simp⟩, HB1⟩
      have HE := Aside0.mk he
      clear he
      go_wp2_with (first | (go_at_call 26; refine (eqz_n r1 r2 A1 B1 r1.length c1 r2.length d1 _ rfl HC1.out H1.out rfl HD1.out H2.out HRL.out).mono ?_; rintro e w1 ⟨r, rfl, hr, hb1⟩; have hz : r = false := (by cases r; rfl; exact absurd (hr.1 rfl) HE.out); subst hz; have HB1 := Aside0.mk (below_step hB.out hb1)))
      go_ret
      exact ⟨false, rfl, by rw [← HA.out]; simp [HE.out], HB1.out⟩
    have l1 : decide (i < (X.length : Int)) = false := decide_eq_false hlt
    have HZ := Aside0.mk (show X = Y from ha.out.1 (by rw [List.drop_eq_nil_of_le (by omega), List.drop_eq_nil_of_le (by rw [HLE.out]; omega)]))
    clear hkk hk ha hi0 hi1 hlt
    go_wp2_with (fail)
    go_ret
    exact ⟨true, rfl, by simp [HZ.out], hB.out⟩
  have d0 : ((X.length : Int) != (Y.length : Int)) = true := bne_iff_ne.mpr (by omega)
  have HLE := Aside0.mk hlen
  clear hlen
  go_enter Try.func27, Try.ntmps27
  go_wp2_with (fail)
  go_ret
  exact ⟨false, rfl, ⟨fun h => (by cases h), fun h => absurd (by rw [h]) HLE.out⟩, Below.refl _ _⟩
set_option maxHeartbeats 8000000 in
set_option maxRecDepth 100000 in
theorem eqf28 (X Y : List (List S38)) (A B : Option Addr) (n c m d : Nat) (w : World) (hn : X.length = n) (hC : Kd.C (Kd.slice 38 k38) w A n X) (hc : n ≤ c) (hm : Y.length = m) (hD : Kd.C (Kd.slice 38 k38) w B m Y) (hd : m ≤ d) (hl : n ≤ 9223372036854775806) (hX : ∀ r ∈ X, r.length ≤ 9223372036854775806) :
    Calls Try.prog 28 #[.slice A n c, .slice B m d, .func (.func 29) #[] #[]] w fun e w' => ∃ r : Bool, e = .returned (.bool r) ∧ (r = true ↔ X = Y) ∧ Below w.heap.size w w' := by
  subst hn
  subst hm
  have HL := Aside0.mk hl
  have HX := Aside0.mk hX
  clear hl hX
  by_cases hlen : Y.length = X.length
  · have d0 : ((X.length : Int) != (Y.length : Int)) = false := bne_eq_false_iff_eq.mpr (by omega)
    have HLE := Aside0.mk hlen
    clear hlen
    go_enter Try.func28, Try.ntmps28
    go_wp2_with (fail)
    go_loopg [17] (X.length + 1) (fun kq v17 w' => ∃ i : Int, v17 = .int .i64 i ∧ Aside0 (0 ≤ i) ∧ Aside0 (i ≤ (X.length : Int)) ∧ Aside0 ((kq : Int) + i = (X.length : Int) + 1) ∧ Aside0 (X.drop i.toNat = Y.drop i.toNat ↔ X = Y) ∧ Aside0 (Below w.heap.size w w'))
    case atStart => exact ⟨0, rfl, ⟨by decide⟩, ⟨by omega⟩, ⟨by omega⟩, ⟨Iff.rfl⟩, ⟨Below.refl _ _⟩⟩
    clear d0
    obtain ⟨i, rfl, hi0, hi1, hk, ha, hB⟩ := hrel
    have hkk := hk.out
    by_cases hlt : i < (X.length : Int)
    · have l1 : decide (i < (X.length : Int)) = true := decide_eq_true hlt
      have hwi : IntKind.i64.wrap (i + 1) = i + 1 := by have := hi0.out; have := HL.out; simp only [i64_w]; unfold wrap64; omega
      have p1 := eq_true hi0.out
      have q1 := eq_true hlt
      have q2 : (i < (Y.length : Int)) = True := eq_true (by rw [HLE.out]; exact hlt)
      obtain ⟨ad, A1, c1, ea, hx, hl1, hC1⟩ := at_LA (Kd.C_belowB hC hB.out rfl) i hi0.out hlt
      subst ea
      obtain ⟨bd, B1, d1, eb, hy, hl2, hD1⟩ := at_LA (Kd.C_belowB hD hB.out rfl) i hi0.out (by rw [HLE.out]; exact hlt)
      subst eb
      have hdx := drop_at X ([] : List S38) i hi0.out hlt
      have hdy := drop_at Y ([] : List S38) i hi0.out (by rw [HLE.out]; exact hlt)
      have HLT := Aside0.mk hlt
      have HA := Aside0.mk (show (rd_LA X i :: X.drop (i + 1).toNat = rd_LA Y i :: Y.drop (i + 1).toNat) ↔ X = Y from by rw [← ha.out, hdx, hdy]; rfl)
      have HRL := Aside0.mk (show (rd_LA X i).length ≤ 9223372036854775806 from HX.out _ (by have : X.drop i.toNat = rd_LA X i :: X.drop (i + 1).toNat := hdx; exact List.mem_of_mem_drop (i := i.toNat) (by rw [this]; simp)))
      clear hdx hdy hlt ha
      generalize rd_LA X i = r1 at hx hl1 hC1 HA HRL
      generalize rd_LA Y i = r2 at hy hl2 hD1 HA
      have HC1 := Aside0.mk hC1
      have HD1 := Aside0.mk hD1
      have H1 := Aside0.mk hl1
      have H2 := Aside0.mk hl2
      clear hC1 hD1 hl1 hl2
      by_cases he : r1 = r2
      · have HE := Aside0.mk he
        clear he
        go_wp2_with (first | (go_at_call 29; refine (eqa_n r1 r2 A1 B1 r1.length c1 r2.length d1 _ rfl HC1.out H1.out rfl HD1.out H2.out HRL.out).mono ?_; rintro e w1 ⟨r, rfl, hr, hb1⟩; have hz : r = true := hr.2 HE.out; subst hz; have HB1 := Aside0.mk (below_step hB.out hb1)))
        go_roundg (gk - 1)
        case measure => have := HLT.out; have := hi0.out; omega
        case rel => exact ⟨i + 1, rfl, ⟨by have := hi0.out; omega⟩, ⟨by have := HLT.out; omega⟩, ⟨by have := HLT.out; omega⟩, ⟨by rw [← HA.out, HE.out]; simp⟩, HB1⟩
      have HE := Aside0.mk he
      clear he
      go_wp2_with (first | (go_at_call 29; refine (eqa_n r1 r2 A1 B1 r1.length c1 r2.length d1 _ rfl HC1.out H1.out rfl HD1.out H2.out HRL.out).mono ?_; rintro e w1 ⟨r, rfl, hr, hb1⟩; have hz : r = false := (by cases r; rfl; exact absurd (hr.1 rfl) HE.out); subst hz; have HB1 := Aside0.mk (below_step hB.out hb1)))
      go_ret
      exact ⟨false, rfl, by rw [← HA.out]; simp [HE.out], HB1.out⟩
    have l1 : decide (i < (X.length : Int)) = false := decide_eq_false hlt
    have HZ := Aside0.mk (show X = Y from ha.out.1 (by rw [List.drop_eq_nil_of_le (by omega), List.drop_eq_nil_of_le (by rw [HLE.out]; omega)]))
    clear hkk hk ha hi0 hi1 hlt
    go_wp2_with (fail)
    go_ret
    exact ⟨true, rfl, by simp [HZ.out], hB.out⟩
  have d0 : ((X.length : Int) != (Y.length : Int)) = true := bne_iff_ne.mpr (by omega)
  have HLE := Aside0.mk hlen
  clear hlen
  go_enter Try.func28, Try.ntmps28
  go_wp2_with (fail)
  go_ret
  exact ⟨false, rfl, ⟨fun h => (by cases h), fun h => absurd (by rw [h]) HLE.out⟩, Below.refl _ _⟩
structure TSmall (T : Tab) : Prop where
  cls : T.cls.length = 256
  wf : ∀ k ∈ T.cls, (Lit.int .i64 k).wf = true
  n : T.next.length ≤ 9223372036854775806
  nr : ∀ r ∈ T.next, r.length ≤ 9223372036854775806
  u : T.rule.length ≤ 9223372036854775806
  t : T.terms.length ≤ 9223372036854775806
  a : T.action.length ≤ 9223372036854775806
  ar : ∀ r ∈ T.action, r.length ≤ 9223372036854775806
  g : T.goto.length ≤ 9223372036854775806
  gr : ∀ r ∈ T.goto, r.length ≤ 9223372036854775806
  l : T.left.length ≤ 9223372036854775806
  s : T.size.length ≤ 9223372036854775806
theorem Tab.ext_ {a b : Tab} (h0 : a.cls = b.cls) (h1 : a.next = b.next) (h2 : a.rule = b.rule) (h3 : a.terms = b.terms) (h4 : a.action = b.action) (h5 : a.goto = b.goto) (h6 : a.left = b.left) (h7 : a.size = b.size) : a = b := by
  cases a; cases b; simp_all
set_option maxHeartbeats 16000000 in
set_option maxRecDepth 100000 in
theorem Same_calls (X Y : Tab) (px py : TL) (w : World) (hX : TabR w X px) (hY : TabR w Y py) (sX : TSmall X) (sY : TSmall Y) :
    Calls Try.prog 11 #[.agg (tcells X px).toArray, .agg (tcells Y py).toArray] w fun e w' => ∃ r : Bool, e = .returned (.bool r) ∧ (r = true ↔ X = Y) ∧ Below w.heap.size w w' := by
  have HTX := Aside0.mk hX
  have HTY := Aside0.mk hY
  have SX := Aside0.mk sX
  have SY := Aside0.mk sY
  have HCX := Aside0.mk hX.cls
  have HCY := Aside0.mk hY.cls
  clear hX hY sX sY
  go_enter Try.func11, Try.ntmps11
  dsimp only [List.append]
  go_upto_region 2 with (first | ((with_reducible refine gate_dst (N := 2) rfl ?_); refine box_event ?hg (N := 2) ?hd (cs := (tcells X px).toArray) (t := 29) ?hr ?_; (case hd => rfl); (case hg => rfl); (case hr => first | (go_simp; done) | (go_simp; rfl)); intro gx hgx w1 hbx hb1; clear hgx; have hbX1 : TBlk w1 gx X px 29 := hbx; clear hbx) | ((with_reducible refine gate_dst (N := 3) rfl ?_); refine box_event ?hg (N := 3) ?hd (cs := (tcells Y py).toArray) (t := 29) ?hr ?_; (case hd => rfl); (case hg => rfl); (case hr => first | (go_simp; done) | (go_simp; rfl)); intro gy hgy w2 hbx hb2; clear hgy; have hbY : TBlk w2 gy Y py 29 := hbx; have hbX : TBlk w2 gx X px 29 := blk_below hbX1 hb2; have HB2 := Aside0.mk (below_step hb1 hb2); clear hbx hbX1 hb1 hb2))
  obtain ⟨rc, hrc, hrci⟩ := cls_eq X.cls Y.cls HCX.out HCY.out SX.out.wf SY.out.wf w2
  have hce : (Op.equalIn 10000 22 (.agg (ccells X).toArray) (.agg (ccells Y).toArray)).run Try.prog w2 = .ok rc w2 := hrc
  have hgd : Try.prog.eqGuardType Try.prog.depth 22 = false := by kernel_rfl
  have kX := (TBlk.mid hbX HCX.out 0 (by decide)).trans (show _ = some (Value.slice px.a1 X.next.length px.c1) from rfl)
  have kY := (TBlk.mid hbY HCY.out 0 (by decide)).trans (show _ = some (Value.slice py.a1 Y.next.length py.c1) from rfl)
  have HRC := Aside0.mk hrci
  clear hrc hrci
  by_cases e0 : X.cls = Y.cls
  rotate_left
  · have E0 := Aside0.mk e0
    clear e0
    cases (show rc = false from by cases rc; rfl; exact absurd (HRC.out.1 rfl) E0.out)
    go_wp2_with (first | ((with_reducible refine gate_dst (N := 8) rfl ?_); refine wpList_load_mid rfl 22 (.tmp 7) rfl gx 0 rfl (ccells X) _ (TBlk.rangeC hbX HCX.out) Try.underlying22 rfl (by rw [ccells_length, HCX.out]; exact size22) ?_) | ((with_reducible refine gate_dst (N := 11) rfl ?_); refine wpList_load_mid rfl 22 (.tmp 10) rfl gy 0 rfl (ccells Y) _ (TBlk.rangeC hbY HCY.out) Try.underlying22 rfl (by rw [ccells_length, HCY.out]; exact size22) ?_))
    go_ret
    exact ⟨false, rfl, ⟨fun h => (by cases h), fun h => absurd (by rw [h]) E0.out⟩, HB2.out⟩
  have E0 := Aside0.mk e0
  clear e0
  cases (show rc = true from HRC.out.2 E0.out)
  by_cases e1 : X.next = Y.next
  rotate_left
  · have E1 := Aside0.mk e1
    clear e1
    go_wp2_with (first | ((with_reducible refine gate_dst (N := 8) rfl ?_); refine wpList_load_mid rfl 22 (.tmp 7) rfl gx 0 rfl (ccells X) _ (TBlk.rangeC hbX HCX.out) Try.underlying22 rfl (by rw [ccells_length, HCX.out]; exact size22) ?_) | ((with_reducible refine gate_dst (N := 11) rfl ?_); refine wpList_load_mid rfl 22 (.tmp 10) rfl gy 0 rfl (ccells Y) _ (TBlk.rangeC hbY HCY.out) Try.underlying22 rfl (by rw [ccells_length, HCY.out]; exact size22) ?_) | (go_at_call 27; have TX := HTX.out.below (below_step HB2.out (Below.refl _ _)); have TY := HTY.out.below (below_step HB2.out (Below.refl _ _)); refine (eqf27 X.next Y.next px.a1 py.a1 X.next.length px.c1 Y.next.length py.c1 _ rfl TX.r1 TX.l1 rfl TY.r1 TY.l1 SX.out.n SX.out.nr).mono ?_; rintro e w1_ ⟨r_, rfl, hr_, hb_⟩; have hz_ : r_ = false := (by cases r_; rfl; exact absurd (hr_.1 rfl) E1.out); subst hz_; have b1 := below_step (Below.refl w2.heap.size w2) hb_; clear hr_ hb_ TX TY))
    go_ret
    exact ⟨false, rfl, ⟨fun h => (by cases h), fun h => absurd (by rw [h]) E1.out⟩, (below_step HB2.out b1)⟩
  have E1 := Aside0.mk e1
  clear e1
  by_cases e2 : X.rule = Y.rule
  rotate_left
  · have E2 := Aside0.mk e2
    clear e2
    go_wp2_with (first | ((with_reducible refine gate_dst (N := 8) rfl ?_); refine wpList_load_mid rfl 22 (.tmp 7) rfl gx 0 rfl (ccells X) _ (TBlk.rangeC hbX HCX.out) Try.underlying22 rfl (by rw [ccells_length, HCX.out]; exact size22) ?_) | ((with_reducible refine gate_dst (N := 11) rfl ?_); refine wpList_load_mid rfl 22 (.tmp 10) rfl gy 0 rfl (ccells Y) _ (TBlk.rangeC hbY HCY.out) Try.underlying22 rfl (by rw [ccells_length, HCY.out]; exact size22) ?_) | (have g_ := b1; clear g_; go_at_call 26; have TX := HTX.out.below (below_step HB2.out b1); have TY := HTY.out.below (below_step HB2.out b1); refine (eqz_n X.rule Y.rule px.a2 py.a2 X.rule.length px.c2 Y.rule.length py.c2 _ rfl TX.r2 TX.l2 rfl TY.r2 TY.l2 SX.out.u).mono ?_; rintro e w2_ ⟨r_, rfl, hr_, hb_⟩; have hz_ : r_ = false := (by cases r_; rfl; exact absurd (hr_.1 rfl) E2.out); subst hz_; have b2 := below_step b1 hb_; clear hr_ hb_ TX TY) | (go_at_call 27; have TX := HTX.out.below (below_step HB2.out (Below.refl _ _)); have TY := HTY.out.below (below_step HB2.out (Below.refl _ _)); refine (eqf27 X.next Y.next px.a1 py.a1 X.next.length px.c1 Y.next.length py.c1 _ rfl TX.r1 TX.l1 rfl TY.r1 TY.l1 SX.out.n SX.out.nr).mono ?_; rintro e w1_ ⟨r_, rfl, hr_, hb_⟩; have hz_ : r_ = true := hr_.2 E1.out; subst hz_; have b1 := below_step (Below.refl w2.heap.size w2) hb_; clear hr_ hb_ TX TY; clear kX kY; have kX := (TBlk.mid (blk_below hbX b1) HCX.out 1 (by decide)).trans (show _ = some (Value.slice px.a2 X.rule.length px.c2) from rfl); have kY := (TBlk.mid (blk_below hbY b1) HCY.out 1 (by decide)).trans (show _ = some (Value.slice py.a2 Y.rule.length py.c2) from rfl)))
    go_ret
    exact ⟨false, rfl, ⟨fun h => (by cases h), fun h => absurd (by rw [h]) E2.out⟩, (below_step HB2.out b2)⟩
  have E2 := Aside0.mk e2
  clear e2
  by_cases e3 : X.terms = Y.terms
  rotate_left
  · have E3 := Aside0.mk e3
    clear e3
    go_wp2_with (first | ((with_reducible refine gate_dst (N := 8) rfl ?_); refine wpList_load_mid rfl 22 (.tmp 7) rfl gx 0 rfl (ccells X) _ (TBlk.rangeC hbX HCX.out) Try.underlying22 rfl (by rw [ccells_length, HCX.out]; exact size22) ?_) | ((with_reducible refine gate_dst (N := 11) rfl ?_); refine wpList_load_mid rfl 22 (.tmp 10) rfl gy 0 rfl (ccells Y) _ (TBlk.rangeC hbY HCY.out) Try.underlying22 rfl (by rw [ccells_length, HCY.out]; exact size22) ?_) | (have g_ := b2; clear g_; go_at_call 26; have TX := HTX.out.below (below_step HB2.out b2); have TY := HTY.out.below (below_step HB2.out b2); refine (eqz_n X.terms Y.terms px.a3 py.a3 X.terms.length px.c3 Y.terms.length py.c3 _ rfl TX.r3 TX.l3 rfl TY.r3 TY.l3 SX.out.t).mono ?_; rintro e w3_ ⟨r_, rfl, hr_, hb_⟩; have hz_ : r_ = false := (by cases r_; rfl; exact absurd (hr_.1 rfl) E3.out); subst hz_; have b3 := below_step b2 hb_; clear hr_ hb_ TX TY) | (have g_ := b1; clear g_; go_at_call 26; have TX := HTX.out.below (below_step HB2.out b1); have TY := HTY.out.below (below_step HB2.out b1); refine (eqz_n X.rule Y.rule px.a2 py.a2 X.rule.length px.c2 Y.rule.length py.c2 _ rfl TX.r2 TX.l2 rfl TY.r2 TY.l2 SX.out.u).mono ?_; rintro e w2_ ⟨r_, rfl, hr_, hb_⟩; have hz_ : r_ = true := hr_.2 E2.out; subst hz_; have b2 := below_step b1 hb_; clear hr_ hb_ TX TY; clear kX kY; have kX := (TBlk.tail (blk_below hbX b2) HCX.out 0).trans (show _ = some (Value.slice px.a3 X.terms.length px.c3) from rfl); have kY := (TBlk.tail (blk_below hbY b2) HCY.out 0).trans (show _ = some (Value.slice py.a3 Y.terms.length py.c3) from rfl)) | (go_at_call 27; have TX := HTX.out.below (below_step HB2.out (Below.refl _ _)); have TY := HTY.out.below (below_step HB2.out (Below.refl _ _)); refine (eqf27 X.next Y.next px.a1 py.a1 X.next.length px.c1 Y.next.length py.c1 _ rfl TX.r1 TX.l1 rfl TY.r1 TY.l1 SX.out.n SX.out.nr).mono ?_; rintro e w1_ ⟨r_, rfl, hr_, hb_⟩; have hz_ : r_ = true := hr_.2 E1.out; subst hz_; have b1 := below_step (Below.refl w2.heap.size w2) hb_; clear hr_ hb_ TX TY; clear kX kY; have kX := (TBlk.mid (blk_below hbX b1) HCX.out 1 (by decide)).trans (show _ = some (Value.slice px.a2 X.rule.length px.c2) from rfl); have kY := (TBlk.mid (blk_below hbY b1) HCY.out 1 (by decide)).trans (show _ = some (Value.slice py.a2 Y.rule.length py.c2) from rfl)))
    go_ret
    exact ⟨false, rfl, ⟨fun h => (by cases h), fun h => absurd (by rw [h]) E3.out⟩, (below_step HB2.out b3)⟩
  have E3 := Aside0.mk e3
  clear e3
  by_cases e4 : X.action = Y.action
  rotate_left
  · have E4 := Aside0.mk e4
    clear e4
    go_wp2_with (first | ((with_reducible refine gate_dst (N := 8) rfl ?_); refine wpList_load_mid rfl 22 (.tmp 7) rfl gx 0 rfl (ccells X) _ (TBlk.rangeC hbX HCX.out) Try.underlying22 rfl (by rw [ccells_length, HCX.out]; exact size22) ?_) | ((with_reducible refine gate_dst (N := 11) rfl ?_); refine wpList_load_mid rfl 22 (.tmp 10) rfl gy 0 rfl (ccells Y) _ (TBlk.rangeC hbY HCY.out) Try.underlying22 rfl (by rw [ccells_length, HCY.out]; exact size22) ?_) | (have g_ := b3; clear g_; go_at_call 28; have TX := HTX.out.below (below_step HB2.out b3); have TY := HTY.out.below (below_step HB2.out b3); refine (eqf28 X.action Y.action px.a4 py.a4 X.action.length px.c4 Y.action.length py.c4 _ rfl TX.r4 TX.l4 rfl TY.r4 TY.l4 SX.out.a SX.out.ar).mono ?_; rintro e w4_ ⟨r_, rfl, hr_, hb_⟩; have hz_ : r_ = false := (by cases r_; rfl; exact absurd (hr_.1 rfl) E4.out); subst hz_; have b4 := below_step b3 hb_; clear hr_ hb_ TX TY) | (have g_ := b2; clear g_; go_at_call 26; have TX := HTX.out.below (below_step HB2.out b2); have TY := HTY.out.below (below_step HB2.out b2); refine (eqz_n X.terms Y.terms px.a3 py.a3 X.terms.length px.c3 Y.terms.length py.c3 _ rfl TX.r3 TX.l3 rfl TY.r3 TY.l3 SX.out.t).mono ?_; rintro e w3_ ⟨r_, rfl, hr_, hb_⟩; have hz_ : r_ = true := hr_.2 E3.out; subst hz_; have b3 := below_step b2 hb_; clear hr_ hb_ TX TY; clear kX kY; have kX := (TBlk.tail (blk_below hbX b3) HCX.out 1).trans (show _ = some (Value.slice px.a4 X.action.length px.c4) from rfl); have kY := (TBlk.tail (blk_below hbY b3) HCY.out 1).trans (show _ = some (Value.slice py.a4 Y.action.length py.c4) from rfl)) | (have g_ := b1; clear g_; go_at_call 26; have TX := HTX.out.below (below_step HB2.out b1); have TY := HTY.out.below (below_step HB2.out b1); refine (eqz_n X.rule Y.rule px.a2 py.a2 X.rule.length px.c2 Y.rule.length py.c2 _ rfl TX.r2 TX.l2 rfl TY.r2 TY.l2 SX.out.u).mono ?_; rintro e w2_ ⟨r_, rfl, hr_, hb_⟩; have hz_ : r_ = true := hr_.2 E2.out; subst hz_; have b2 := below_step b1 hb_; clear hr_ hb_ TX TY; clear kX kY; have kX := (TBlk.tail (blk_below hbX b2) HCX.out 0).trans (show _ = some (Value.slice px.a3 X.terms.length px.c3) from rfl); have kY := (TBlk.tail (blk_below hbY b2) HCY.out 0).trans (show _ = some (Value.slice py.a3 Y.terms.length py.c3) from rfl)) | (go_at_call 27; have TX := HTX.out.below (below_step HB2.out (Below.refl _ _)); have TY := HTY.out.below (below_step HB2.out (Below.refl _ _)); refine (eqf27 X.next Y.next px.a1 py.a1 X.next.length px.c1 Y.next.length py.c1 _ rfl TX.r1 TX.l1 rfl TY.r1 TY.l1 SX.out.n SX.out.nr).mono ?_; rintro e w1_ ⟨r_, rfl, hr_, hb_⟩; have hz_ : r_ = true := hr_.2 E1.out; subst hz_; have b1 := below_step (Below.refl w2.heap.size w2) hb_; clear hr_ hb_ TX TY; clear kX kY; have kX := (TBlk.mid (blk_below hbX b1) HCX.out 1 (by decide)).trans (show _ = some (Value.slice px.a2 X.rule.length px.c2) from rfl); have kY := (TBlk.mid (blk_below hbY b1) HCY.out 1 (by decide)).trans (show _ = some (Value.slice py.a2 Y.rule.length py.c2) from rfl)))
    go_ret
    exact ⟨false, rfl, ⟨fun h => (by cases h), fun h => absurd (by rw [h]) E4.out⟩, (below_step HB2.out b4)⟩
  have E4 := Aside0.mk e4
  clear e4
  by_cases e5 : X.goto = Y.goto
  rotate_left
  · have E5 := Aside0.mk e5
    clear e5
    go_wp2_with (first | ((with_reducible refine gate_dst (N := 8) rfl ?_); refine wpList_load_mid rfl 22 (.tmp 7) rfl gx 0 rfl (ccells X) _ (TBlk.rangeC hbX HCX.out) Try.underlying22 rfl (by rw [ccells_length, HCX.out]; exact size22) ?_) | ((with_reducible refine gate_dst (N := 11) rfl ?_); refine wpList_load_mid rfl 22 (.tmp 10) rfl gy 0 rfl (ccells Y) _ (TBlk.rangeC hbY HCY.out) Try.underlying22 rfl (by rw [ccells_length, HCY.out]; exact size22) ?_) | (have g_ := b4; clear g_; go_at_call 27; have TX := HTX.out.below (below_step HB2.out b4); have TY := HTY.out.below (below_step HB2.out b4); refine (eqf27 X.goto Y.goto px.a5 py.a5 X.goto.length px.c5 Y.goto.length py.c5 _ rfl TX.r5 TX.l5 rfl TY.r5 TY.l5 SX.out.g SX.out.gr).mono ?_; rintro e w5_ ⟨r_, rfl, hr_, hb_⟩; have hz_ : r_ = false := (by cases r_; rfl; exact absurd (hr_.1 rfl) E5.out); subst hz_; have b5 := below_step b4 hb_; clear hr_ hb_ TX TY) | (have g_ := b3; clear g_; go_at_call 28; have TX := HTX.out.below (below_step HB2.out b3); have TY := HTY.out.below (below_step HB2.out b3); refine (eqf28 X.action Y.action px.a4 py.a4 X.action.length px.c4 Y.action.length py.c4 _ rfl TX.r4 TX.l4 rfl TY.r4 TY.l4 SX.out.a SX.out.ar).mono ?_; rintro e w4_ ⟨r_, rfl, hr_, hb_⟩; have hz_ : r_ = true := hr_.2 E4.out; subst hz_; have b4 := below_step b3 hb_; clear hr_ hb_ TX TY; clear kX kY; have kX := (TBlk.tail (blk_below hbX b4) HCX.out 2).trans (show _ = some (Value.slice px.a5 X.goto.length px.c5) from rfl); have kY := (TBlk.tail (blk_below hbY b4) HCY.out 2).trans (show _ = some (Value.slice py.a5 Y.goto.length py.c5) from rfl)) | (have g_ := b2; clear g_; go_at_call 26; have TX := HTX.out.below (below_step HB2.out b2); have TY := HTY.out.below (below_step HB2.out b2); refine (eqz_n X.terms Y.terms px.a3 py.a3 X.terms.length px.c3 Y.terms.length py.c3 _ rfl TX.r3 TX.l3 rfl TY.r3 TY.l3 SX.out.t).mono ?_; rintro e w3_ ⟨r_, rfl, hr_, hb_⟩; have hz_ : r_ = true := hr_.2 E3.out; subst hz_; have b3 := below_step b2 hb_; clear hr_ hb_ TX TY; clear kX kY; have kX := (TBlk.tail (blk_below hbX b3) HCX.out 1).trans (show _ = some (Value.slice px.a4 X.action.length px.c4) from rfl); have kY := (TBlk.tail (blk_below hbY b3) HCY.out 1).trans (show _ = some (Value.slice py.a4 Y.action.length py.c4) from rfl)) | (have g_ := b1; clear g_; go_at_call 26; have TX := HTX.out.below (below_step HB2.out b1); have TY := HTY.out.below (below_step HB2.out b1); refine (eqz_n X.rule Y.rule px.a2 py.a2 X.rule.length px.c2 Y.rule.length py.c2 _ rfl TX.r2 TX.l2 rfl TY.r2 TY.l2 SX.out.u).mono ?_; rintro e w2_ ⟨r_, rfl, hr_, hb_⟩; have hz_ : r_ = true := hr_.2 E2.out; subst hz_; have b2 := below_step b1 hb_; clear hr_ hb_ TX TY; clear kX kY; have kX := (TBlk.tail (blk_below hbX b2) HCX.out 0).trans (show _ = some (Value.slice px.a3 X.terms.length px.c3) from rfl); have kY := (TBlk.tail (blk_below hbY b2) HCY.out 0).trans (show _ = some (Value.slice py.a3 Y.terms.length py.c3) from rfl)) | (go_at_call 27; have TX := HTX.out.below (below_step HB2.out (Below.refl _ _)); have TY := HTY.out.below (below_step HB2.out (Below.refl _ _)); refine (eqf27 X.next Y.next px.a1 py.a1 X.next.length px.c1 Y.next.length py.c1 _ rfl TX.r1 TX.l1 rfl TY.r1 TY.l1 SX.out.n SX.out.nr).mono ?_; rintro e w1_ ⟨r_, rfl, hr_, hb_⟩; have hz_ : r_ = true := hr_.2 E1.out; subst hz_; have b1 := below_step (Below.refl w2.heap.size w2) hb_; clear hr_ hb_ TX TY; clear kX kY; have kX := (TBlk.mid (blk_below hbX b1) HCX.out 1 (by decide)).trans (show _ = some (Value.slice px.a2 X.rule.length px.c2) from rfl); have kY := (TBlk.mid (blk_below hbY b1) HCY.out 1 (by decide)).trans (show _ = some (Value.slice py.a2 Y.rule.length py.c2) from rfl)))
    go_ret
    exact ⟨false, rfl, ⟨fun h => (by cases h), fun h => absurd (by rw [h]) E5.out⟩, (below_step HB2.out b5)⟩
  have E5 := Aside0.mk e5
  clear e5
  by_cases e6 : X.left = Y.left
  rotate_left
  · have E6 := Aside0.mk e6
    clear e6
    go_wp2_with (first | ((with_reducible refine gate_dst (N := 8) rfl ?_); refine wpList_load_mid rfl 22 (.tmp 7) rfl gx 0 rfl (ccells X) _ (TBlk.rangeC hbX HCX.out) Try.underlying22 rfl (by rw [ccells_length, HCX.out]; exact size22) ?_) | ((with_reducible refine gate_dst (N := 11) rfl ?_); refine wpList_load_mid rfl 22 (.tmp 10) rfl gy 0 rfl (ccells Y) _ (TBlk.rangeC hbY HCY.out) Try.underlying22 rfl (by rw [ccells_length, HCY.out]; exact size22) ?_) | (have g_ := b5; clear g_; go_at_call 26; have TX := HTX.out.below (below_step HB2.out b5); have TY := HTY.out.below (below_step HB2.out b5); refine (eqz_n X.left Y.left px.a6 py.a6 X.left.length px.c6 Y.left.length py.c6 _ rfl TX.r6 TX.l6 rfl TY.r6 TY.l6 SX.out.l).mono ?_; rintro e w6_ ⟨r_, rfl, hr_, hb_⟩; have hz_ : r_ = false := (by cases r_; rfl; exact absurd (hr_.1 rfl) E6.out); subst hz_; have b6 := below_step b5 hb_; clear hr_ hb_ TX TY) | (have g_ := b4; clear g_; go_at_call 27; have TX := HTX.out.below (below_step HB2.out b4); have TY := HTY.out.below (below_step HB2.out b4); refine (eqf27 X.goto Y.goto px.a5 py.a5 X.goto.length px.c5 Y.goto.length py.c5 _ rfl TX.r5 TX.l5 rfl TY.r5 TY.l5 SX.out.g SX.out.gr).mono ?_; rintro e w5_ ⟨r_, rfl, hr_, hb_⟩; have hz_ : r_ = true := hr_.2 E5.out; subst hz_; have b5 := below_step b4 hb_; clear hr_ hb_ TX TY; clear kX kY; have kX := (TBlk.tail (blk_below hbX b5) HCX.out 3).trans (show _ = some (Value.slice px.a6 X.left.length px.c6) from rfl); have kY := (TBlk.tail (blk_below hbY b5) HCY.out 3).trans (show _ = some (Value.slice py.a6 Y.left.length py.c6) from rfl)) | (have g_ := b3; clear g_; go_at_call 28; have TX := HTX.out.below (below_step HB2.out b3); have TY := HTY.out.below (below_step HB2.out b3); refine (eqf28 X.action Y.action px.a4 py.a4 X.action.length px.c4 Y.action.length py.c4 _ rfl TX.r4 TX.l4 rfl TY.r4 TY.l4 SX.out.a SX.out.ar).mono ?_; rintro e w4_ ⟨r_, rfl, hr_, hb_⟩; have hz_ : r_ = true := hr_.2 E4.out; subst hz_; have b4 := below_step b3 hb_; clear hr_ hb_ TX TY; clear kX kY; have kX := (TBlk.tail (blk_below hbX b4) HCX.out 2).trans (show _ = some (Value.slice px.a5 X.goto.length px.c5) from rfl); have kY := (TBlk.tail (blk_below hbY b4) HCY.out 2).trans (show _ = some (Value.slice py.a5 Y.goto.length py.c5) from rfl)) | (have g_ := b2; clear g_; go_at_call 26; have TX := HTX.out.below (below_step HB2.out b2); have TY := HTY.out.below (below_step HB2.out b2); refine (eqz_n X.terms Y.terms px.a3 py.a3 X.terms.length px.c3 Y.terms.length py.c3 _ rfl TX.r3 TX.l3 rfl TY.r3 TY.l3 SX.out.t).mono ?_; rintro e w3_ ⟨r_, rfl, hr_, hb_⟩; have hz_ : r_ = true := hr_.2 E3.out; subst hz_; have b3 := below_step b2 hb_; clear hr_ hb_ TX TY; clear kX kY; have kX := (TBlk.tail (blk_below hbX b3) HCX.out 1).trans (show _ = some (Value.slice px.a4 X.action.length px.c4) from rfl); have kY := (TBlk.tail (blk_below hbY b3) HCY.out 1).trans (show _ = some (Value.slice py.a4 Y.action.length py.c4) from rfl)) | (have g_ := b1; clear g_; go_at_call 26; have TX := HTX.out.below (below_step HB2.out b1); have TY := HTY.out.below (below_step HB2.out b1); refine (eqz_n X.rule Y.rule px.a2 py.a2 X.rule.length px.c2 Y.rule.length py.c2 _ rfl TX.r2 TX.l2 rfl TY.r2 TY.l2 SX.out.u).mono ?_; rintro e w2_ ⟨r_, rfl, hr_, hb_⟩; have hz_ : r_ = true := hr_.2 E2.out; subst hz_; have b2 := below_step b1 hb_; clear hr_ hb_ TX TY; clear kX kY; have kX := (TBlk.tail (blk_below hbX b2) HCX.out 0).trans (show _ = some (Value.slice px.a3 X.terms.length px.c3) from rfl); have kY := (TBlk.tail (blk_below hbY b2) HCY.out 0).trans (show _ = some (Value.slice py.a3 Y.terms.length py.c3) from rfl)) | (go_at_call 27; have TX := HTX.out.below (below_step HB2.out (Below.refl _ _)); have TY := HTY.out.below (below_step HB2.out (Below.refl _ _)); refine (eqf27 X.next Y.next px.a1 py.a1 X.next.length px.c1 Y.next.length py.c1 _ rfl TX.r1 TX.l1 rfl TY.r1 TY.l1 SX.out.n SX.out.nr).mono ?_; rintro e w1_ ⟨r_, rfl, hr_, hb_⟩; have hz_ : r_ = true := hr_.2 E1.out; subst hz_; have b1 := below_step (Below.refl w2.heap.size w2) hb_; clear hr_ hb_ TX TY; clear kX kY; have kX := (TBlk.mid (blk_below hbX b1) HCX.out 1 (by decide)).trans (show _ = some (Value.slice px.a2 X.rule.length px.c2) from rfl); have kY := (TBlk.mid (blk_below hbY b1) HCY.out 1 (by decide)).trans (show _ = some (Value.slice py.a2 Y.rule.length py.c2) from rfl)))
    go_ret
    exact ⟨false, rfl, ⟨fun h => (by cases h), fun h => absurd (by rw [h]) E6.out⟩, (below_step HB2.out b6)⟩
  have E6 := Aside0.mk e6
  clear e6
  by_cases e7 : X.size = Y.size
  rotate_left
  · have E7 := Aside0.mk e7
    clear e7
    go_wp2_with (first | ((with_reducible refine gate_dst (N := 8) rfl ?_); refine wpList_load_mid rfl 22 (.tmp 7) rfl gx 0 rfl (ccells X) _ (TBlk.rangeC hbX HCX.out) Try.underlying22 rfl (by rw [ccells_length, HCX.out]; exact size22) ?_) | ((with_reducible refine gate_dst (N := 11) rfl ?_); refine wpList_load_mid rfl 22 (.tmp 10) rfl gy 0 rfl (ccells Y) _ (TBlk.rangeC hbY HCY.out) Try.underlying22 rfl (by rw [ccells_length, HCY.out]; exact size22) ?_) | (have g_ := b6; clear g_; go_at_call 26; have TX := HTX.out.below (below_step HB2.out b6); have TY := HTY.out.below (below_step HB2.out b6); refine (eqz_n X.size Y.size px.a7 py.a7 X.size.length px.c7 Y.size.length py.c7 _ rfl TX.r7 TX.l7 rfl TY.r7 TY.l7 SX.out.s).mono ?_; rintro e w7_ ⟨r_, rfl, hr_, hb_⟩; have hz_ : r_ = false := (by cases r_; rfl; exact absurd (hr_.1 rfl) E7.out); subst hz_; have b7 := below_step b6 hb_; clear hr_ hb_ TX TY) | (have g_ := b5; clear g_; go_at_call 26; have TX := HTX.out.below (below_step HB2.out b5); have TY := HTY.out.below (below_step HB2.out b5); refine (eqz_n X.left Y.left px.a6 py.a6 X.left.length px.c6 Y.left.length py.c6 _ rfl TX.r6 TX.l6 rfl TY.r6 TY.l6 SX.out.l).mono ?_; rintro e w6_ ⟨r_, rfl, hr_, hb_⟩; have hz_ : r_ = true := hr_.2 E6.out; subst hz_; have b6 := below_step b5 hb_; clear hr_ hb_ TX TY; clear kX kY; have kX := (TBlk.tail (blk_below hbX b6) HCX.out 4).trans (show _ = some (Value.slice px.a7 X.size.length px.c7) from rfl); have kY := (TBlk.tail (blk_below hbY b6) HCY.out 4).trans (show _ = some (Value.slice py.a7 Y.size.length py.c7) from rfl)) | (have g_ := b4; clear g_; go_at_call 27; have TX := HTX.out.below (below_step HB2.out b4); have TY := HTY.out.below (below_step HB2.out b4); refine (eqf27 X.goto Y.goto px.a5 py.a5 X.goto.length px.c5 Y.goto.length py.c5 _ rfl TX.r5 TX.l5 rfl TY.r5 TY.l5 SX.out.g SX.out.gr).mono ?_; rintro e w5_ ⟨r_, rfl, hr_, hb_⟩; have hz_ : r_ = true := hr_.2 E5.out; subst hz_; have b5 := below_step b4 hb_; clear hr_ hb_ TX TY; clear kX kY; have kX := (TBlk.tail (blk_below hbX b5) HCX.out 3).trans (show _ = some (Value.slice px.a6 X.left.length px.c6) from rfl); have kY := (TBlk.tail (blk_below hbY b5) HCY.out 3).trans (show _ = some (Value.slice py.a6 Y.left.length py.c6) from rfl)) | (have g_ := b3; clear g_; go_at_call 28; have TX := HTX.out.below (below_step HB2.out b3); have TY := HTY.out.below (below_step HB2.out b3); refine (eqf28 X.action Y.action px.a4 py.a4 X.action.length px.c4 Y.action.length py.c4 _ rfl TX.r4 TX.l4 rfl TY.r4 TY.l4 SX.out.a SX.out.ar).mono ?_; rintro e w4_ ⟨r_, rfl, hr_, hb_⟩; have hz_ : r_ = true := hr_.2 E4.out; subst hz_; have b4 := below_step b3 hb_; clear hr_ hb_ TX TY; clear kX kY; have kX := (TBlk.tail (blk_below hbX b4) HCX.out 2).trans (show _ = some (Value.slice px.a5 X.goto.length px.c5) from rfl); have kY := (TBlk.tail (blk_below hbY b4) HCY.out 2).trans (show _ = some (Value.slice py.a5 Y.goto.length py.c5) from rfl)) | (have g_ := b2; clear g_; go_at_call 26; have TX := HTX.out.below (below_step HB2.out b2); have TY := HTY.out.below (below_step HB2.out b2); refine (eqz_n X.terms Y.terms px.a3 py.a3 X.terms.length px.c3 Y.terms.length py.c3 _ rfl TX.r3 TX.l3 rfl TY.r3 TY.l3 SX.out.t).mono ?_; rintro e w3_ ⟨r_, rfl, hr_, hb_⟩; have hz_ : r_ = true := hr_.2 E3.out; subst hz_; have b3 := below_step b2 hb_; clear hr_ hb_ TX TY; clear kX kY; have kX := (TBlk.tail (blk_below hbX b3) HCX.out 1).trans (show _ = some (Value.slice px.a4 X.action.length px.c4) from rfl); have kY := (TBlk.tail (blk_below hbY b3) HCY.out 1).trans (show _ = some (Value.slice py.a4 Y.action.length py.c4) from rfl)) | (have g_ := b1; clear g_; go_at_call 26; have TX := HTX.out.below (below_step HB2.out b1); have TY := HTY.out.below (below_step HB2.out b1); refine (eqz_n X.rule Y.rule px.a2 py.a2 X.rule.length px.c2 Y.rule.length py.c2 _ rfl TX.r2 TX.l2 rfl TY.r2 TY.l2 SX.out.u).mono ?_; rintro e w2_ ⟨r_, rfl, hr_, hb_⟩; have hz_ : r_ = true := hr_.2 E2.out; subst hz_; have b2 := below_step b1 hb_; clear hr_ hb_ TX TY; clear kX kY; have kX := (TBlk.tail (blk_below hbX b2) HCX.out 0).trans (show _ = some (Value.slice px.a3 X.terms.length px.c3) from rfl); have kY := (TBlk.tail (blk_below hbY b2) HCY.out 0).trans (show _ = some (Value.slice py.a3 Y.terms.length py.c3) from rfl)) | (go_at_call 27; have TX := HTX.out.below (below_step HB2.out (Below.refl _ _)); have TY := HTY.out.below (below_step HB2.out (Below.refl _ _)); refine (eqf27 X.next Y.next px.a1 py.a1 X.next.length px.c1 Y.next.length py.c1 _ rfl TX.r1 TX.l1 rfl TY.r1 TY.l1 SX.out.n SX.out.nr).mono ?_; rintro e w1_ ⟨r_, rfl, hr_, hb_⟩; have hz_ : r_ = true := hr_.2 E1.out; subst hz_; have b1 := below_step (Below.refl w2.heap.size w2) hb_; clear hr_ hb_ TX TY; clear kX kY; have kX := (TBlk.mid (blk_below hbX b1) HCX.out 1 (by decide)).trans (show _ = some (Value.slice px.a2 X.rule.length px.c2) from rfl); have kY := (TBlk.mid (blk_below hbY b1) HCY.out 1 (by decide)).trans (show _ = some (Value.slice py.a2 Y.rule.length py.c2) from rfl)))
    go_ret
    exact ⟨false, rfl, ⟨fun h => (by cases h), fun h => absurd (by rw [h]) E7.out⟩, (below_step HB2.out b7)⟩
  have E7 := Aside0.mk e7
  clear e7
  go_wp2_with (first | ((with_reducible refine gate_dst (N := 8) rfl ?_); refine wpList_load_mid rfl 22 (.tmp 7) rfl gx 0 rfl (ccells X) _ (TBlk.rangeC hbX HCX.out) Try.underlying22 rfl (by rw [ccells_length, HCX.out]; exact size22) ?_) | ((with_reducible refine gate_dst (N := 11) rfl ?_); refine wpList_load_mid rfl 22 (.tmp 10) rfl gy 0 rfl (ccells Y) _ (TBlk.rangeC hbY HCY.out) Try.underlying22 rfl (by rw [ccells_length, HCY.out]; exact size22) ?_) | (have g_ := b6; clear g_; go_at_call 26; have TX := HTX.out.below (below_step HB2.out b6); have TY := HTY.out.below (below_step HB2.out b6); refine (eqz_n X.size Y.size px.a7 py.a7 X.size.length px.c7 Y.size.length py.c7 _ rfl TX.r7 TX.l7 rfl TY.r7 TY.l7 SX.out.s).mono ?_; rintro e w7_ ⟨r_, rfl, hr_, hb_⟩; have hz_ : r_ = true := hr_.2 E7.out; subst hz_; have b7 := below_step b6 hb_; clear hr_ hb_ TX TY) | (have g_ := b5; clear g_; go_at_call 26; have TX := HTX.out.below (below_step HB2.out b5); have TY := HTY.out.below (below_step HB2.out b5); refine (eqz_n X.left Y.left px.a6 py.a6 X.left.length px.c6 Y.left.length py.c6 _ rfl TX.r6 TX.l6 rfl TY.r6 TY.l6 SX.out.l).mono ?_; rintro e w6_ ⟨r_, rfl, hr_, hb_⟩; have hz_ : r_ = true := hr_.2 E6.out; subst hz_; have b6 := below_step b5 hb_; clear hr_ hb_ TX TY; clear kX kY; have kX := (TBlk.tail (blk_below hbX b6) HCX.out 4).trans (show _ = some (Value.slice px.a7 X.size.length px.c7) from rfl); have kY := (TBlk.tail (blk_below hbY b6) HCY.out 4).trans (show _ = some (Value.slice py.a7 Y.size.length py.c7) from rfl)) | (have g_ := b4; clear g_; go_at_call 27; have TX := HTX.out.below (below_step HB2.out b4); have TY := HTY.out.below (below_step HB2.out b4); refine (eqf27 X.goto Y.goto px.a5 py.a5 X.goto.length px.c5 Y.goto.length py.c5 _ rfl TX.r5 TX.l5 rfl TY.r5 TY.l5 SX.out.g SX.out.gr).mono ?_; rintro e w5_ ⟨r_, rfl, hr_, hb_⟩; have hz_ : r_ = true := hr_.2 E5.out; subst hz_; have b5 := below_step b4 hb_; clear hr_ hb_ TX TY; clear kX kY; have kX := (TBlk.tail (blk_below hbX b5) HCX.out 3).trans (show _ = some (Value.slice px.a6 X.left.length px.c6) from rfl); have kY := (TBlk.tail (blk_below hbY b5) HCY.out 3).trans (show _ = some (Value.slice py.a6 Y.left.length py.c6) from rfl)) | (have g_ := b3; clear g_; go_at_call 28; have TX := HTX.out.below (below_step HB2.out b3); have TY := HTY.out.below (below_step HB2.out b3); refine (eqf28 X.action Y.action px.a4 py.a4 X.action.length px.c4 Y.action.length py.c4 _ rfl TX.r4 TX.l4 rfl TY.r4 TY.l4 SX.out.a SX.out.ar).mono ?_; rintro e w4_ ⟨r_, rfl, hr_, hb_⟩; have hz_ : r_ = true := hr_.2 E4.out; subst hz_; have b4 := below_step b3 hb_; clear hr_ hb_ TX TY; clear kX kY; have kX := (TBlk.tail (blk_below hbX b4) HCX.out 2).trans (show _ = some (Value.slice px.a5 X.goto.length px.c5) from rfl); have kY := (TBlk.tail (blk_below hbY b4) HCY.out 2).trans (show _ = some (Value.slice py.a5 Y.goto.length py.c5) from rfl)) | (have g_ := b2; clear g_; go_at_call 26; have TX := HTX.out.below (below_step HB2.out b2); have TY := HTY.out.below (below_step HB2.out b2); refine (eqz_n X.terms Y.terms px.a3 py.a3 X.terms.length px.c3 Y.terms.length py.c3 _ rfl TX.r3 TX.l3 rfl TY.r3 TY.l3 SX.out.t).mono ?_; rintro e w3_ ⟨r_, rfl, hr_, hb_⟩; have hz_ : r_ = true := hr_.2 E3.out; subst hz_; have b3 := below_step b2 hb_; clear hr_ hb_ TX TY; clear kX kY; have kX := (TBlk.tail (blk_below hbX b3) HCX.out 1).trans (show _ = some (Value.slice px.a4 X.action.length px.c4) from rfl); have kY := (TBlk.tail (blk_below hbY b3) HCY.out 1).trans (show _ = some (Value.slice py.a4 Y.action.length py.c4) from rfl)) | (have g_ := b1; clear g_; go_at_call 26; have TX := HTX.out.below (below_step HB2.out b1); have TY := HTY.out.below (below_step HB2.out b1); refine (eqz_n X.rule Y.rule px.a2 py.a2 X.rule.length px.c2 Y.rule.length py.c2 _ rfl TX.r2 TX.l2 rfl TY.r2 TY.l2 SX.out.u).mono ?_; rintro e w2_ ⟨r_, rfl, hr_, hb_⟩; have hz_ : r_ = true := hr_.2 E2.out; subst hz_; have b2 := below_step b1 hb_; clear hr_ hb_ TX TY; clear kX kY; have kX := (TBlk.tail (blk_below hbX b2) HCX.out 0).trans (show _ = some (Value.slice px.a3 X.terms.length px.c3) from rfl); have kY := (TBlk.tail (blk_below hbY b2) HCY.out 0).trans (show _ = some (Value.slice py.a3 Y.terms.length py.c3) from rfl)) | (go_at_call 27; have TX := HTX.out.below (below_step HB2.out (Below.refl _ _)); have TY := HTY.out.below (below_step HB2.out (Below.refl _ _)); refine (eqf27 X.next Y.next px.a1 py.a1 X.next.length px.c1 Y.next.length py.c1 _ rfl TX.r1 TX.l1 rfl TY.r1 TY.l1 SX.out.n SX.out.nr).mono ?_; rintro e w1_ ⟨r_, rfl, hr_, hb_⟩; have hz_ : r_ = true := hr_.2 E1.out; subst hz_; have b1 := below_step (Below.refl w2.heap.size w2) hb_; clear hr_ hb_ TX TY; clear kX kY; have kX := (TBlk.mid (blk_below hbX b1) HCX.out 1 (by decide)).trans (show _ = some (Value.slice px.a2 X.rule.length px.c2) from rfl); have kY := (TBlk.mid (blk_below hbY b1) HCY.out 1 (by decide)).trans (show _ = some (Value.slice py.a2 Y.rule.length py.c2) from rfl)))
  go_ret
  exact ⟨true, rfl, ⟨fun _ => Tab.ext_ E0.out E1.out E2.out E3.out E4.out E5.out E6.out E7.out, fun _ => rfl⟩, (below_step HB2.out b7)⟩
end Go.Proofs.Ytkeekganabafbaa.X
end
