import Derived.Test.YtkeekganabafbaaXJTu6
/- Texts of this claim, joined. -/
section
namespace Go.Proofs.Ytkeekganabafbaa.X
open Go.RowKit Go.Proofs.YtkeekganabafbaaW.PrintWords Go.Proofs.YtkeekganabafbaaW.PrintLast Go.Proofs.YtkeekganabafbaaW.PrintMore Go.Proofs.Ytkeekganabafbaa.Pure
attribute [local go_sem] max2_int min2_int max_two min_two max_three min_three max_four min_four
set_option linter.unusedVariables false
set_option linter.unusedSimpArgs false
set_option maxHeartbeats 32000000 in
set_option maxRecDepth 100000 in
theorem read_calls (l : List S48) (A0 : Option Addr) (c0 : Nat) (w : World) (hC : Kd.C k48 w A0 8 l) (hc : 8 ≤ c0) (hO : OKs l) (hbig : ∀ s ∈ l, s.f1.length < 225179981368000) :
    Calls Try.prog 38 #[.slice A0 8 c0] w fun e w' => ∃ T p, e = .returned (.tuple #[.agg (tcells T p).toArray, .bool (readB l)]) ∧ T.cls.length = 256 ∧ (readB l = true → T = tabI l ∧ LT w' (fun k => w.heap.size ≤ k) T p) ∧ Below w.heap.size w w' := by
  have HL := Aside0.mk (Kd.C_len hC)
  have HC := Aside0.mk hC
  have HO := Aside0.mk hO
  have HBG := Aside0.mk hbig
  clear hC hO hbig
  go_enter Try.func38, Try.ntmps38
  go_wp2_with (first | ((with_reducible refine gate_dst (N := 2) rfl ?_); refine box_event ?hg (N := 2) ?hd (cs := (tcells T0 P0).toArray) (t := 29) ?hr ?_; (case hd => rfl); (case hg => rfl); (case hr => rw [← zc29]; simp [execOp, go_sem]); intro b0 hg w1 hTB1 hb1; have hz0 : w.heap.size ≤ b0 := Nat.le_of_eq hg.symm; clear hg) | ((with_reducible refine gate_dst (N := 13) rfl ?_); refine slice_event ?hg (N := 13) ?hd (cs := (PL (fun _ => 0) 0).toArray) (t := 96) (n := 9) ?hr ?_; (case hd => rfl); (case hg => rfl); (case hr => simp [execOp, make9, Act.eval]); intro ga hg w2 hpa2 hb2; have hza : w1.heap.size ≤ ga := Nat.le_of_eq hg.symm; clear hg))
  have hB2 := below_step hb1 hb2
  have hTB2 : TBlk w2 b0 T0 P0 29 := blk_below hTB1 hb2
  have hN0 : b0 < w2.heap.size := blk_lt hTB2
  have hNa : ga < w2.heap.size := blk_lt hpa2
  have hga : ga ≠ b0 := by have := blk_lt hTB1; omega
  obtain ⟨N, hN⟩ : ∃ N, N = w2.heap.size := ⟨_, rfl⟩
  rw [← hN] at hN0 hNa
  have HN0 := Aside0.mk hN0
  have HNa := Aside0.mk hNa
  have HGA := Aside0.mk hga
  have HB2 := Aside0.mk hB2
  have HTB2 := Aside0.mk hTB2
  have HPA2 := Aside0.mk hpa2
  have HN := Aside0.mk hN
  have HZ1 := Aside0.mk hb1.size
  have HNW := Aside0.mk (show w.heap.size ≤ N from by rw [hN]; exact hB2.size)
  have HZA := Aside0.mk hza
  have HZ0 := Aside0.mk hz0
  clear hN0 hNa hga hB2 hTB2 hpa2 hTB1 hb1 hb2 hza hz0 hN
  go_loopg [16] 9 (fun kq v16 w' => ∃ (i : Int) (gs : Nat → Nat), v16 = .int .i64 i ∧ Aside0 (0 ≤ i) ∧ Aside0 (i ≤ 8) ∧ Aside0 ((kq : Int) + i = 9) ∧ Aside0 (RD8 w' N gs (s0 l) i.toNat) ∧ Aside0 (w'.heap[ga]? = some (.cells (PL gs i.toNat).toArray 96 (0, 0))) ∧ Aside0 (TBlk w' b0 T0 P0 29) ∧ Aside0 (Below w.heap.size w w') ∧ Aside0 (N ≤ w'.heap.size))
  case atStart => exact ⟨0, fun _ => 0, rfl, ⟨by decide⟩, ⟨by decide⟩, ⟨by decide⟩, ⟨RD8.zero _ _ _ _⟩, HPA2, HTB2, HB2, ⟨Nat.le_of_eq HN.out⟩⟩
  obtain ⟨i, gs, rfl, hi0, hi1, hk, hRD, hPA, hTB, hB, hNw⟩ := hrel
  have hkk := hk.out
  clear HPA2 HTB2 HB2
  by_cases hlt : i < 8
  · have l1 : decide (i < 8) = true := decide_eq_true hlt
    have hwi : IntKind.i64.wrap (i + 1) = i + 1 := by have := hi0.out; simp only [i64_w]; unfold wrap64; omega
    have p1 := eq_true hi0.out
    have q1 := eq_true hlt
    have p2 : (0 ≤ i + 1) = True := eq_true (by have := hi0.out; omega)
    have q2 : (i + 1 < 9) = True := eq_true (by omega)
    have q2n : (i + 1 < ((9 : Nat) : Int)) = True := eq_true (by omega)
    obtain ⟨ad, Ax, cx, ea, hx0_, hx1_, hlx, hCx⟩ := at_T48 HC.out i hi0.out hlt
    subst ea
    have hx0 := (hB.out.cell (World.block_lt_of_cell? w _ hx0_)).trans hx0_
    have hx1 := (hB.out.cell (World.block_lt_of_cell? w _ hx1_)).trans hx1_
    have hmem : l[i.toNat]? = some (rd_T48 l i) := by
      have hj : i.toNat < l.length := by have := hi0.out; rw [HL.out]; omega
      unfold rd_T48
      rw [List.getD_eq_getElem?_getD, List.getElem?_eq_getElem hj]
      rfl
    have HS := Aside0.mk (show s0 l i.toNat = ((rd_T48 l i).f1, false) from by unfold s0; rw [sec_at hmem])
    have HSB := Aside0.mk (show BI (rd_T48 l i).f1 ∧ (rd_T48 l i).f1.length < 225179981368000 from ⟨HO.out _ (List.mem_of_getElem? hmem), HBG.out _ (List.mem_of_getElem? hmem)⟩)
    have HCX := Aside0.mk (Kd.C_below hCx hB.out)
    have HLX := Aside0.mk hlx
    have HLT := Aside0.mk hlt
    clear hlt hx0_ hx1_ hmem hCx hlx
    generalize rd_T48 l i = x at hx0 hx1 HS HSB HCX HLX
    go_upto_region 5 with (first | ((with_reducible refine gate_dst (N := 6) rfl ?_); refine box_event ?hg (N := 6) ?hd (cs := #[.int .i64 0, .slice none 0 0]) (t := 48) ?hr ?_; (case hd => rfl); (case hg => rfl); (case hr => first | (go_simp; done) | (go_simp; rfl)); intro gx hgx w3 hbx3 hb3; have hgz : wr.heap.size ≤ gx := Nat.le_of_eq hgx.symm; clear hgx; have x0 := (blk_cell hbx3 0).trans (show _ = some (Value.int .i64 0) from rfl); have x1 := (blk_cell hbx3 1).trans (show _ = some (Value.slice none 0 0) from rfl); have f0 := blk_frozen hbx3 0; have f1 := blk_frozen hbx3 1))
    have hbx4 := blk_put (blk_put hbx3 0 (.int .i64 x.f0) rfl) 1 (.slice Ax x.f1.length cx) rfl
    have hb4 := (hb3.setCell (p := ⟨gx, 0, none⟩) hgz (.int .i64 x.f0)).setCell (p := ⟨gx, 1, none⟩) hgz (.slice Ax x.f1.length cx)
    generalize (w3.setCell ⟨gx, 0, none⟩ (.int .i64 x.f0)).setCell ⟨gx, 1, none⟩ (.slice Ax x.f1.length cx) = w4 at hbx4 hb4 ⊢
    clear x0 x1 f0 f1 hbx3 hb3 hx0 hx1 hgz
    have x0 := (blk_cell hbx4 0).trans (show _ = some (Value.int .i64 x.f0) from rfl)
    have x1 := (blk_cell hbx4 1).trans (show _ = some (Value.slice Ax x.f1.length cx) from rfl)
    go_wp2_with (first | ((with_reducible refine gate_dst (N := 27) rfl ?_); refine box_event ?hg (N := 27) ?hd (cs := #[.slice Ax x.f1.length cx, .bool false]) (t := 98) ?hr ?_; (case hd => rfl); (case hg => rfl); (case hr => first | (go_simp; done) | (go_simp; rfl)); intro gr hgr w5 hbx5 hb5; have hgz : w4.heap.size ≤ gr := Nat.le_of_eq hgr.symm; clear hgr; have hb45 := below_step hb4 hb5; have hpa5 := blk_below hPA.out hb45; obtain ⟨vx, hvx⟩ : ∃ v, (PL gs i.toNat)[(i + 1).toNat]? = some v := ⟨_, List.getElem?_eq_getElem (by show (i + 1).toNat < 9; have := HLT.out; omega)⟩; have y0 := (blk_cell hpa5 (i + 1).toNat).trans ((List.getElem?_toArray).trans hvx); have y1 := blk_frozen hpa5 (i + 1).toNat; clear hvx))
    have hj : (i + 1).toNat = i.toNat + 1 := by have := hi0.out; omega
    have hpa6 := blk_put (cs' := (PL (upd gs i.toNat gr) (i.toNat + 1)).toArray) hpa5 (i + 1).toNat (.pointer (some ⟨gr, 0, none⟩)) (by rw [hj]; exact PL_set gs i.toNat gr (by have := HLT.out; have := hi0.out; omega))
    have hb6 : Below w.heap.size w (w5.setCell ⟨ga, (i + 1).toNat, none⟩ (.pointer (some ⟨gr, 0, none⟩))) := (below_step hB.out hb45).setCell (by have := HZA.out; have := HZ1.out; show w.heap.size ≤ ga; omega) _
    have hrd5 := (hRD.out).add1 hb45 hNw.out (by have := hb4.size; omega) (show RBS w5 gr (s0 l i.toNat) from by rw [HS.out]; exact ⟨Ax, cx, hbx5, HLX.out, Kd.C_below HCX.out hb45⟩) (by rw [HS.out]; exact HSB.out)
    have hrd6 := hrd5.keep (KeepBut.set1 w5 ga (i + 1).toNat (.pointer (some ⟨gr, 0, none⟩))) (PL_nb hpa5) (fun j hj => by have := hrd5.lo j hj; have := HNa.out; omega)
    have hTB6 : TBlk _ b0 T0 P0 29 := (KeepBut.set1 w5 ga (i + 1).toNat (.pointer (some ⟨gr, 0, none⟩))).blk (blk_below hTB.out hb45) HGA.out.symm (by simp)
    go_roundg (gk - 1)
    case measure => have := HLT.out; have := hi0.out; omega
    case rel => exact ⟨i + 1, upd gs i.toNat gr, rfl, ⟨by have := hi0.out; omega⟩, ⟨by have := HLT.out; omega⟩, ⟨by have := HLT.out; omega⟩, ⟨by rw [hj] at hrd6 ⊢; exact hrd6⟩, ⟨by rw [hj] at hpa6 ⊢; exact hpa6⟩, ⟨hTB6⟩, ⟨hb6⟩, ⟨by have := hNw.out; have := hb45.size; rw [World.size_setCell]; omega⟩⟩
  have l1 : decide (i < 8) = false := decide_eq_false hlt
  obtain rfl : i = 8 := by have := hi1.out; omega
  clear hkk hk hi0 hi1 hlt
  have HRD := Aside0.mk (show RD8 wr N gs (s0 l) 8 from hRD.out)
  have HPA := Aside0.mk (show wr.heap[ga]? = some (.cells (PL gs 8).toArray 96 (0, 0)) from hPA.out)
  clear hRD hPA
  go_wp2_with (first | ((with_reducible refine gate_dst (N := 7) rfl ?_); refine box_event ?hg (N := 7) ?hd (cs := (DL l 0).toArray) (t := 99) ?hr ?_; (case hd => rfl); (case hg => rfl); (case hr => first | (go_simp; done) | (go_simp; rfl) | (simp [execOp, go_sem]; rfl)); intro gd hgd w3 hbd3 hb3; have hzd : wr.heap.size ≤ gd := Nat.le_of_eq hgd.symm; clear hgd))
  have HGS := Aside0.mk (show ∀ j, j < 8 → gs j ≠ gd ∧ gs j ≠ ga ∧ gs j ≠ b0 ∧ N ≤ gs j from fun j hj => by have h1 := (HRD.out.rd j hj).lt; have h2 := HRD.out.lo j hj; have h3 := HNa.out; have h4 := HN0.out; omega)
  have HGD := Aside0.mk (show gd ≠ ga ∧ gd ≠ b0 ∧ N ≤ gd from by have h3 := HNa.out; have h4 := HN0.out; have h5 := hNw.out; omega)
  have HRD3 := Aside0.mk (HRD.out.below hb3)
  have HPA3 := Aside0.mk (blk_below HPA.out hb3)
  have HTB3 := Aside0.mk (show TBlk w3 b0 T0 P0 29 from blk_below hTB.out hb3)
  have HB3 := Aside0.mk (below_step hB.out hb3)
  have HBD3 := Aside0.mk hbd3
  have HND := Aside0.mk (show w.heap.size ≤ gd from by have := hB.out.size; omega)
  clear hzd hb3 hbd3 HRD HPA hTB hB hNw
  go_loopg [30] 8 (fun kq v30 w' => ∃ (i : Int), v30 = .int .i64 i ∧ Aside0 (0 ≤ i) ∧ Aside0 (i ≤ 7) ∧ Aside0 ((kq : Int) + i = 8) ∧ Aside0 (RD8 w' N gs (upd (s0 l) 0 (manyR numR i.toNat (sec l 0, false)).2) 8) ∧ Aside0 (w'.heap[ga]? = some (.cells (PL gs 8).toArray 96 (0, 0))) ∧ Aside0 (w'.heap[gd]? = some (.cells (DL l i.toNat).toArray 99 (0, 0))) ∧ Aside0 (TBlk w' b0 T0 P0 29) ∧ Aside0 (Below w.heap.size w w'))
  case atStart => exact ⟨0, rfl, ⟨by decide⟩, ⟨by decide⟩, ⟨by decide⟩, ⟨by rw [show upd (s0 l) 0 (manyR numR (0 : Int).toNat (sec l 0, false)).2 = s0 l from upd_self (s0 l) 0]; exact HRD3.out⟩, HPA3, HBD3, HTB3, HB3⟩
  obtain ⟨i, rfl, hi0, hi1, hk, hRD, hPA, hBD, hTB, hB⟩ := hrel
  have hkk := hk.out
  clear HPA3 HTB3 HB3 HRD3 HBD3
  by_cases hlt : i < 7
  · have l1 : decide (i < 7) = true := decide_eq_true hlt
    have hwi : IntKind.i64.wrap (i + 1) = i + 1 := by have := hi0.out; simp only [i64_w]; unfold wrap64; omega
    have p1 := eq_true hi0.out
    have q1 := eq_true hlt
    have q1n : (i < ((7 : Nat) : Int)) = True := eq_true hlt
    have HLT := Aside0.mk hlt
    have k1 : wr.cell? ⟨ga, 1, none⟩ = some (.pointer (some ⟨gs 0, 0, none⟩)) := (blk_cell hPA.out 1).trans rfl
    clear hlt
    go_wp2_with (first | (go_at_call 59; refine (num_n (gs 0) (manyR numR i.toNat (sec l 0, false)).2 wr (hRD.out.rd 0 (by decide)) (hRD.out.bi 0 (by decide)).1 (hRD.out.bi 0 (by decide)).2).mono ?_; rintro e w4 ⟨rfl, hrb4, hk4⟩; have hbd4 := hk4.1.blk hBD.out (HGS.out 0 (by decide)).1.symm (by simp); obtain ⟨vx, hvx⟩ : ∃ v, (DL l i.toNat)[i.toNat]? = some v := ⟨_, List.getElem?_eq_getElem (by rw [DL_length l _ (by have := HLT.out; omega)]; have := HLT.out; have := hi0.out; omega)⟩; have y0 := (blk_cell hbd4 i.toNat).trans ((List.getElem?_toArray).trans hvx); have y1 := blk_frozen hbd4 i.toNat; clear hvx))
    have hj : (i + 1).toNat = i.toNat + 1 := by have := hi0.out; omega
    have hbd5 := blk_put (cs' := (DL l (i.toNat + 1)).toArray) hbd4 i.toNat (.int .i64 (numR (manyR numR i.toNat (sec l 0, false)).2).1) (DL_set l i.toNat (by have := HLT.out; have := hi0.out; omega))
    have hset := KB.set w4 gd i.toNat (.int .i64 (numR (manyR numR i.toNat (sec l 0, false)).2).1)
    have hrd4 := hRD.out.call (j := 0) (by decide) hk4.1 hrb4.rb (fine_num _ (hRD.out.bi 0 (by decide)).1)
    have hrd5 := hrd4.keep hset.1 (DL_nb hbd4) (fun j hj => (HGS.out j hj).1)
    have hpa5 := hset.1.blk (hk4.1.blk hPA.out (HGS.out 0 (by decide)).2.1.symm (by simp)) HGD.out.1.symm (by simp)
    have hTB5 : TBlk _ b0 T0 P0 29 := hset.1.blk (hk4.1.blk hTB.out (HGS.out 0 (by decide)).2.2.1.symm (by simp)) HGD.out.2.1.symm (by simp)
    have hB5 := keep_below (keep_below hB.out hk4 (by have := HGS.out 0 (by decide); have := HNW.out; omega)) hset HND.out
    go_roundg (gk - 1)
    case measure => have := HLT.out; have := hi0.out; omega
    case rel => exact ⟨i + 1, rfl, ⟨by have := hi0.out; omega⟩, ⟨by have := HLT.out; omega⟩, ⟨by have := HLT.out; omega⟩, ⟨by rw [hj, manyR_snoc]; rw [upd_upd] at hrd5; exact hrd5⟩, ⟨hpa5⟩, ⟨by rw [hj]; exact hbd5⟩, ⟨hTB5⟩, ⟨hB5⟩⟩
  have l1 : decide (i < 7) = false := decide_eq_false hlt
  obtain rfl : i = 7 := by have := hi1.out; omega
  clear hkk hk hi0 hi1 hlt
  have HRD := Aside0.mk (show RD8 wr N gs (upd (s0 l) 0 (rD l).2) 8 from hRD.out)
  have HBD := Aside0.mk (show wr.heap[gd]? = some (.cells (DL l 7).toArray 99 (0, 0)) from hBD.out)
  clear hRD hBD
  obtain ⟨ad, Ax, cx, ea, hx0_, hx1_, hlx, hCx⟩ := at_T48 HC.out 1 (by decide) (by decide)
  subst ea
  have hx1 := (hB.out.cell (World.block_lt_of_cell? w _ hx1_)).trans hx1_
  simp only [show (1 : Int).toNat * 2 = 2 from rfl, show (rd_T48 l 1).f1 = sec l 1 from rfl] at hx1 hlx hCx
  rw [add_block, add_off2] at hx1
  clear hx0_ hx1_
  have HCX := Aside0.mk hCx
  have HLX := Aside0.mk hlx
  clear hCx hlx
  have d0 : wr.cell? ⟨gd, 0, none⟩ = some (.int .i64 (dI l 0)) := (blk_cell HBD.out 0).trans (by rw [DL7]; rfl)
  have d1 : wr.cell? ⟨gd, 1, none⟩ = some (.int .i64 (dI l 1)) := (blk_cell HBD.out 1).trans (by rw [DL7]; rfl)
  have d2 : wr.cell? ⟨gd, 2, none⟩ = some (.int .i64 (dI l 2)) := (blk_cell HBD.out 2).trans (by rw [DL7]; rfl)
  have d3 : wr.cell? ⟨gd, 3, none⟩ = some (.int .i64 (dI l 3)) := (blk_cell HBD.out 3).trans (by rw [DL7]; rfl)
  have d4 : wr.cell? ⟨gd, 4, none⟩ = some (.int .i64 (dI l 4)) := (blk_cell HBD.out 4).trans (by rw [DL7]; rfl)
  have d5 : wr.cell? ⟨gd, 5, none⟩ = some (.int .i64 (dI l 5)) := (blk_cell HBD.out 5).trans (by rw [DL7]; rfl)
  have d6 : wr.cell? ⟨gd, 6, none⟩ = some (.int .i64 (dI l 6)) := (blk_cell HBD.out 6).trans (by rw [DL7]; rfl)
  by_cases c0 : 512 < dI l 0
  · have bb0 : decide (512 < dI l 0) = true := decide_eq_true c0
    have HRB := Aside0.mk (show readB l = false from readB_no (fun h => by omega))
    go_wp2_with (first | (refine wpList_store_row rfl 29 (.tmp 2) (.tmp 81) rfl b0 Try.zeroCells29 rfl rfl 29 (tcells T0 P0).toArray hTB.out (by rw [zc29]; exact sizeT T0_cls) ((tsz T0_cls).trans zcs.symm) (by rw [zc29]; exact tcells_one _ _) ?_; rw [zc29]; obtain ⟨hT9, hb9⟩ := row_set hTB.out hB.out HZ0.out (tcells T0 P0).toArray; generalize wr.setRow b0 (tcells T0 P0).toArray = w9 at hT9 hb9 ⊢))
    refine bodyPost_ret (results_ct rfl _ _ b0 29 (tcells T0 P0).toArray (0, 0) _ rfl hT9 Try.underlying29 rfl (sizeT T0_cls)) rfl ?_
    exact ⟨T0, P0, by rw [HRB.out]; first | done | rfl, T0_cls, (fun h => absurd (HRB.out.symm.trans h) (by decide)), hb9⟩
  have bb0 : decide (512 < dI l 0) = false := decide_eq_false c0
  by_cases c1 : 256 < dI l 1
  · have bb1 : decide (256 < dI l 1) = true := decide_eq_true c1
    have HRB := Aside0.mk (show readB l = false from readB_no (fun h => by omega))
    go_wp2_with (first | (refine wpList_store_row rfl 29 (.tmp 2) (.tmp 81) rfl b0 Try.zeroCells29 rfl rfl 29 (tcells T0 P0).toArray hTB.out (by rw [zc29]; exact sizeT T0_cls) ((tsz T0_cls).trans zcs.symm) (by rw [zc29]; exact tcells_one _ _) ?_; rw [zc29]; obtain ⟨hT9, hb9⟩ := row_set hTB.out hB.out HZ0.out (tcells T0 P0).toArray; generalize wr.setRow b0 (tcells T0 P0).toArray = w9 at hT9 hb9 ⊢))
    refine bodyPost_ret (results_ct rfl _ _ b0 29 (tcells T0 P0).toArray (0, 0) _ rfl hT9 Try.underlying29 rfl (sizeT T0_cls)) rfl ?_
    exact ⟨T0, P0, by rw [HRB.out]; first | done | rfl, T0_cls, (fun h => absurd (HRB.out.symm.trans h) (by decide)), hb9⟩
  have bb1 : decide (256 < dI l 1) = false := decide_eq_false c1
  by_cases c2 : 64 < dI l 2
  · have bb2 : decide (64 < dI l 2) = true := decide_eq_true c2
    have HRB := Aside0.mk (show readB l = false from readB_no (fun h => by omega))
    go_wp2_with (first | (refine wpList_store_row rfl 29 (.tmp 2) (.tmp 81) rfl b0 Try.zeroCells29 rfl rfl 29 (tcells T0 P0).toArray hTB.out (by rw [zc29]; exact sizeT T0_cls) ((tsz T0_cls).trans zcs.symm) (by rw [zc29]; exact tcells_one _ _) ?_; rw [zc29]; obtain ⟨hT9, hb9⟩ := row_set hTB.out hB.out HZ0.out (tcells T0 P0).toArray; generalize wr.setRow b0 (tcells T0 P0).toArray = w9 at hT9 hb9 ⊢))
    refine bodyPost_ret (results_ct rfl _ _ b0 29 (tcells T0 P0).toArray (0, 0) _ rfl hT9 Try.underlying29 rfl (sizeT T0_cls)) rfl ?_
    exact ⟨T0, P0, by rw [HRB.out]; first | done | rfl, T0_cls, (fun h => absurd (HRB.out.symm.trans h) (by decide)), hb9⟩
  have bb2 : decide (64 < dI l 2) = false := decide_eq_false c2
  by_cases c3 : 512 < dI l 3
  · have bb3 : decide (512 < dI l 3) = true := decide_eq_true c3
    have HRB := Aside0.mk (show readB l = false from readB_no (fun h => by omega))
    go_wp2_with (first | (refine wpList_store_row rfl 29 (.tmp 2) (.tmp 81) rfl b0 Try.zeroCells29 rfl rfl 29 (tcells T0 P0).toArray hTB.out (by rw [zc29]; exact sizeT T0_cls) ((tsz T0_cls).trans zcs.symm) (by rw [zc29]; exact tcells_one _ _) ?_; rw [zc29]; obtain ⟨hT9, hb9⟩ := row_set hTB.out hB.out HZ0.out (tcells T0 P0).toArray; generalize wr.setRow b0 (tcells T0 P0).toArray = w9 at hT9 hb9 ⊢))
    refine bodyPost_ret (results_ct rfl _ _ b0 29 (tcells T0 P0).toArray (0, 0) _ rfl hT9 Try.underlying29 rfl (sizeT T0_cls)) rfl ?_
    exact ⟨T0, P0, by rw [HRB.out]; first | done | rfl, T0_cls, (fun h => absurd (HRB.out.symm.trans h) (by decide)), hb9⟩
  have bb3 : decide (512 < dI l 3) = false := decide_eq_false c3
  by_cases c4 : 48 < dI l 4
  · have bb4 : decide (48 < dI l 4) = true := decide_eq_true c4
    have HRB := Aside0.mk (show readB l = false from readB_no (fun h => by omega))
    go_wp2_with (first | (refine wpList_store_row rfl 29 (.tmp 2) (.tmp 81) rfl b0 Try.zeroCells29 rfl rfl 29 (tcells T0 P0).toArray hTB.out (by rw [zc29]; exact sizeT T0_cls) ((tsz T0_cls).trans zcs.symm) (by rw [zc29]; exact tcells_one _ _) ?_; rw [zc29]; obtain ⟨hT9, hb9⟩ := row_set hTB.out hB.out HZ0.out (tcells T0 P0).toArray; generalize wr.setRow b0 (tcells T0 P0).toArray = w9 at hT9 hb9 ⊢))
    refine bodyPost_ret (results_ct rfl _ _ b0 29 (tcells T0 P0).toArray (0, 0) _ rfl hT9 Try.underlying29 rfl (sizeT T0_cls)) rfl ?_
    exact ⟨T0, P0, by rw [HRB.out]; first | done | rfl, T0_cls, (fun h => absurd (HRB.out.symm.trans h) (by decide)), hb9⟩
  have bb4 : decide (48 < dI l 4) = false := decide_eq_false c4
  by_cases c5 : 48 < dI l 5
  · have bb5 : decide (48 < dI l 5) = true := decide_eq_true c5
    have HRB := Aside0.mk (show readB l = false from readB_no (fun h => by omega))
    go_wp2_with (first | (refine wpList_store_row rfl 29 (.tmp 2) (.tmp 81) rfl b0 Try.zeroCells29 rfl rfl 29 (tcells T0 P0).toArray hTB.out (by rw [zc29]; exact sizeT T0_cls) ((tsz T0_cls).trans zcs.symm) (by rw [zc29]; exact tcells_one _ _) ?_; rw [zc29]; obtain ⟨hT9, hb9⟩ := row_set hTB.out hB.out HZ0.out (tcells T0 P0).toArray; generalize wr.setRow b0 (tcells T0 P0).toArray = w9 at hT9 hb9 ⊢))
    refine bodyPost_ret (results_ct rfl _ _ b0 29 (tcells T0 P0).toArray (0, 0) _ rfl hT9 Try.underlying29 rfl (sizeT T0_cls)) rfl ?_
    exact ⟨T0, P0, by rw [HRB.out]; first | done | rfl, T0_cls, (fun h => absurd (HRB.out.symm.trans h) (by decide)), hb9⟩
  have bb5 : decide (48 < dI l 5) = false := decide_eq_false c5
  by_cases c6 : 128 < dI l 6
  · have bb6 : decide (128 < dI l 6) = true := decide_eq_true c6
    have HRB := Aside0.mk (show readB l = false from readB_no (fun h => by omega))
    go_wp2_with (first | (refine wpList_store_row rfl 29 (.tmp 2) (.tmp 81) rfl b0 Try.zeroCells29 rfl rfl 29 (tcells T0 P0).toArray hTB.out (by rw [zc29]; exact sizeT T0_cls) ((tsz T0_cls).trans zcs.symm) (by rw [zc29]; exact tcells_one _ _) ?_; rw [zc29]; obtain ⟨hT9, hb9⟩ := row_set hTB.out hB.out HZ0.out (tcells T0 P0).toArray; generalize wr.setRow b0 (tcells T0 P0).toArray = w9 at hT9 hb9 ⊢))
    refine bodyPost_ret (results_ct rfl _ _ b0 29 (tcells T0 P0).toArray (0, 0) _ rfl hT9 Try.underlying29 rfl (sizeT T0_cls)) rfl ?_
    exact ⟨T0, P0, by rw [HRB.out]; first | done | rfl, T0_cls, (fun h => absurd (HRB.out.symm.trans h) (by decide)), hb9⟩
  have bb6 : decide (128 < dI l 6) = false := decide_eq_false c6
  by_cases c7 : (sec l 1).length = 256
  · have b7 : (((sec l 1).length : Nat) : Int) = 256 := by rw [c7]; rfl
    have HDS := Aside0.mk (show dI l 0 ≤ 512 ∧ dI l 1 ≤ 256 ∧ dI l 2 ≤ 64 ∧ dI l 3 ≤ 512 ∧ dI l 4 ≤ 48 ∧ dI l 5 ≤ 48 ∧ dI l 6 ≤ 128 from by omega)
    have HX7 := Aside0.mk c7
    clear c0 c1 c2 c3 c4 c5 c6 c7
    go_upto_region 15 with (fail)
    clear bb0 bb1 bb2 bb3 bb4 bb5 bb6 b7 d0 d1 d2 d3 d4 d5 d6
    rw [HX7.out] at hx1 HCX HLX
    go_wp2_with (fail)
    have HBS := Aside0.mk (show BI (sec l 1) from (HRD.out.bi 1 (by decide)).1)
    obtain ⟨adx, eax, _⟩ := Kd.at_int HCX.out 0 (by decide) (by decide)
    subst eax
    go_loopg [87] 257 (fun kq v87 w' => ∃ (i : Int) (y : List Int), v87 = .int .i64 i ∧ Aside0 (0 ≤ i) ∧ Aside0 (i ≤ 256) ∧ Aside0 ((kq : Int) + i = 257) ∧ Aside0 (y.length = 256) ∧ Aside0 (y.take i.toNat = (sec l 1).take i.toNat) ∧ Aside0 (RD8 w' N gs (upd (s0 l) 0 (rD l).2) 8) ∧ Aside0 (w'.heap[ga]? = some (.cells (PL gs 8).toArray 96 (0, 0))) ∧ Aside0 (w'.heap[gd]? = some (.cells (DL l 7).toArray 99 (0, 0))) ∧ Aside0 (TBlk w' b0 (TC y) P0 29) ∧ Aside0 (Below w.heap.size w w'))
    case atStart => exact ⟨0, List.replicate 256 0, rfl, ⟨by decide⟩, ⟨by decide⟩, ⟨by decide⟩, ⟨List.length_replicate⟩, ⟨rfl⟩, HRD, hPA, HBD, hTB, hB⟩
    clear HRD hPA HBD hTB hB hx1
    obtain ⟨i, y, rfl, hi0, hi1, hk, hyl, hyt, hRD, hPA, hBD, hTB, hB⟩ := hrel
    have hkk := hk.out
    by_cases hlt : i < 256
    · have l1 : decide (i < 256) = true := decide_eq_true hlt
      have hwi : IntKind.i64.wrap (i + 1) = i + 1 := by have := hi0.out; simp only [i64_w]; unfold wrap64; omega
      have p1 := eq_true hi0.out
      have q1 := eq_true hlt
      have q1n : (i < ((256 : Nat) : Int)) = True := eq_true hlt
      have HLT := Aside0.mk hlt
      obtain ⟨adx', eax', hx_⟩ := Kd.at_int HCX.out i hi0.out hlt
      obtain rfl : adx = adx' := by injection eax'
      have hx := (hB.out.cell (World.block_lt_of_cell? w _ hx_)).trans hx_
      have hxr : 0 ≤ rd (sec l 1) i ∧ rd (sec l 1) i < 256 := by
        obtain ⟨j, rfl⟩ := Int.eq_ofNat_of_zero_le hi0.out
        exact rd_BI (sec l 1) HBS.out j (by rw [HX7.out]; omega)
      have hwx : IntKind.i64.wrap (rd (sec l 1) i) = rd (sec l 1) i := by simp only [i64_w]; unfold wrap64; omega
      have hit : i.toNat < 256 := by have := hi0.out; omega
      obtain ⟨vx, hvx⟩ : ∃ v, (tcells (TC y) P0)[i.toNat]? = some v := ⟨_, List.getElem?_eq_getElem (by rw [tcells_length hyl.out]; omega)⟩
      have y0 := (blk_cell hTB.out i.toNat).trans ((List.getElem?_toArray).trans hvx)
      have y1 := blk_frozen hTB.out i.toNat
      have HTK := Aside0.mk (show (y.set i.toNat (rd (sec l 1) i)).take (i.toNat + 1) = (sec l 1).take (i.toNat + 1) from by
        have := take_set_id y (sec l 1) i.toNat (by rw [hyl.out]; exact hit) (by rw [hyl.out, HX7.out]) hyt.out
        rwa [show ((i.toNat : Nat) : Int) = i by have := hi0.out; omega] at this)
      have HIT := Aside0.mk hit
      clear hlt hvx eax' hx_ hit hxr
      go_wp2
      have hj : (i + 1).toNat = i.toNat + 1 := by have := hi0.out; omega
      have hset := KB.set wr b0 i.toNat (.int .i64 (rd (sec l 1) i))
      have hTB5 : TBlk _ b0 (TC (y.set i.toNat (rd (sec l 1) i))) P0 29 := blk_put (cs' := (tcells (TC (y.set i.toNat (rd (sec l 1) i))) P0).toArray) hTB.out i.toNat (.int .i64 (rd (sec l 1) i)) (set0 (T := TC y) hyl.out i.toNat HIT.out _)
      have hrd5 := hRD.out.keep hset.1 (tcells_nb hTB.out) (fun j hj => (HGS.out j hj).2.2.1)
      have hpa5 := hset.1.blk hPA.out HGA.out (by simp)
      have hbd5 := hset.1.blk hBD.out HGD.out.2.1 (by simp)
      have hB5 := keep_below hB.out hset HZ0.out
      go_roundg (gk - 1)
      case measure => have := HLT.out; have := hi0.out; omega
      case rel => exact ⟨i + 1, y.set i.toNat (rd (sec l 1) i), rfl, ⟨by have := hi0.out; omega⟩, ⟨by have := HLT.out; omega⟩, ⟨by have := HLT.out; omega⟩, ⟨by rw [List.length_set]; exact hyl.out⟩, ⟨by rw [hj]; exact HTK.out⟩, ⟨hrd5⟩, ⟨hpa5⟩, ⟨hbd5⟩, ⟨hTB5⟩, ⟨hB5⟩⟩
    have l1 : decide (i < 256) = false := decide_eq_false hlt
    obtain rfl : y = sec l 1 := by
      have h := hyt.out
      rwa [List.take_of_length_le (by rw [hyl.out]; have := hi1.out; omega), List.take_of_length_le (by rw [HX7.out]; have := hi1.out; omega)] at h
    obtain ⟨A2, c2, hb2, _, _⟩ := hRD.out.rd 1 (by decide)
    have k2 : wr.cell? ⟨ga, 2, none⟩ = some (.pointer (some ⟨gs 1, 0, none⟩)) := (blk_cell hPA.out 2).trans rfl
    have y0 := (blk_cell hb2 0).trans (show _ = some (Value.slice A2 _ c2) from rfl)
    have y1 := blk_frozen hb2 0
    clear hkk hk hi0 hi1 hlt hyl hyt
    go_upto_region 21 with (fail)
    have hset := KB.set wr (gs 1) 0 (.slice none 0 0)
    have hrd4 := hRD.out.call (j := 1) (by decide) hset.1 (s := ([], false)) ⟨none, 0, blk_put hb2 0 (.slice none 0 0) rfl, Nat.le_refl _, Kd.C_nil _ _⟩ ⟨BI_nil, Nat.zero_le _⟩
    have hpa4 := hset.1.blk hPA.out (HGS.out 1 (by decide)).2.1.symm (by simp)
    have hbd4 := hset.1.blk hBD.out (HGS.out 1 (by decide)).1.symm (by simp)
    have hTB4 : TBlk _ b0 (TC (sec l 1)) P0 29 := hset.1.blk hTB.out (HGS.out 1 (by decide)).2.2.1.symm (by simp)
    have hB4 := keep_below hB.out hset (by have := HGS.out 1 (by decide); have := HNW.out; omega)
    generalize wr.setCell ⟨gs 1, 0, none⟩ (.slice none 0 0) = w4 at hrd4 hpa4 hbd4 hTB4 hB4 ⊢
    clear k2 y0 y1 hb2 hset hRD hPA hBD hTB hB
    obtain ⟨NN, hNN⟩ : ∃ n, n = w4.heap.size := ⟨_, rfl⟩
    have HLO := Aside0.mk (show (∀ j, j < 8 → gs j < NN) ∧ b0 < NN from ⟨fun j hj => by rw [hNN]; exact (hrd4.rd j hj).lt, by rw [hNN]; exact blk_lt hTB4⟩)
    have hlt4 : LT w4 (fun k => NN ≤ k) (TC (sec l 1)) P0 := LT.nil _ _ HX7.out rfl rfl
    have hnn4 : NN ≤ w4.heap.size := Nat.le_of_eq hNN
    have hmf : ∀ (fn : Fn) (first cap : Array Value) (w : World), (Instr.makeFunc fn first cap).run Try.prog w = .ok (.func fn first cap) w := fun _ _ _ _ => rfl
    clear hNN
    refine start_ (n := 12) (S := fun w' => w'.cell? ⟨gd, 0, none⟩ = some (.int .i64 ((dn l 0 : Nat) : Int)) ∧ w'.cell? ⟨gd, 1, none⟩ = some (.int .i64 ((dn l 1 : Nat) : Int)) ∧ w'.cell? ⟨ga, 3, none⟩ = some (.pointer (some ⟨gs 2, 0, none⟩))) (ds := []) #[false, false, false, false, false, false, false, false, false, false, false, false] (by kernel_rfl) rfl rfl ⟨((blk_cell hbd4 0).trans (by rw [DL7, ← dI_nn]; rfl)), ((blk_cell hbd4 1).trans (by rw [DL7, ← dI_nn]; rfl)), ((blk_cell hpa4 3).trans rfl)⟩ (fun hHeld => ?_)
    generalize HW : w4.drew = w5 at hHeld ⊢
    have hrd5 : RD8 w5 N gs (upd (upd (s0 l) 0 (rD l).2) 1 ([], false)) 8 := by rw [← HW]; exact hrd4.below (below_drew (Below.refl _ _))
    have hpa5 : w5.heap[ga]? = some (.cells (PL gs 8).toArray 96 (0, 0)) := by rw [← HW]; exact hpa4
    have hbd5 : w5.heap[gd]? = some (.cells (DL l 7).toArray 99 (0, 0)) := by rw [← HW]; exact hbd4
    have hTB5 : TBlk w5 b0 ⟨sec l 1, [], [], [], [], [], [], []⟩ ⟨none, 0, none, 0, none, 0, none, 0, none, 0, none, 0, none, 0⟩ 29 := by rw [← HW]; exact hTB4
    have hlt5 : LT w5 (fun k => NN ≤ k) ⟨sec l 1, [], [], [], [], [], [], []⟩ ⟨none, 0, none, 0, none, 0, none, 0, none, 0, none, 0, none, 0⟩ := by rw [← HW]; exact hlt4.step (fun k _ _ => rfl)
    have hB5 : Below w.heap.size w w5 := by rw [← HW]; exact below_drew hB4
    have hnn5 : NN ≤ w5.heap.size := by rw [← HW]; exact hnn4
    clear hrd4 hpa4 hbd4 hTB4 hlt4 hB4 hnn4 HW
    refine pure_ (i := 0) (N := some 104) (v := ?_) (a' := ?_) #[true, false, false, false, false, false, false, false, false, false, false, false] rfl rfl (by kernel_rfl) (fun _ _ _ h => h) (Or.inl ⟨by rfl, ?_⟩) ?_ ?_
    rotate_left
    · intro w'
      go_simp
      with_reducible rfl
    rotate_left
    · simp only [Act.put, List.setIfInBounds_toArray, List.set_cons_zero, List.set_cons_succ, i64_w, i32_w]
      rfl
    refine pure_ (i := 2) (N := some 106) (v := ?_) (a' := ?_) #[true, false, true, false, false, false, false, false, false, false, false, false] rfl rfl (by kernel_rfl) (fun _ _ _ h => h) (Or.inl ⟨by rfl, ?_⟩) ?_ ?_
    rotate_left
    · intro w'
      go_simp
      with_reducible rfl
    rotate_left
    · simp only [Act.put, List.setIfInBounds_toArray, List.set_cons_zero, List.set_cons_succ, i64_w, i32_w]
      rfl
    refine pure_ (i := 4) (N := some 108) (v := ?_) (a' := ?_) #[true, false, true, false, true, false, false, false, false, false, false, false] rfl rfl (by kernel_rfl) (fun _ _ _ h => h) (Or.inl ⟨by rfl, ?_⟩) ?_ ?_
    rotate_left
    · intro w'
      go_simp
      with_reducible rfl
    rotate_left
    · simp only [Act.put, List.setIfInBounds_toArray, List.set_cons_zero, List.set_cons_succ, i64_w, i32_w]
      rfl
    refine pure_ (i := 5) (N := some 109) (v := ?_) (a' := ?_) #[true, false, true, false, true, true, false, false, false, false, false, false] rfl rfl (by kernel_rfl) (fun _ _ _ h => h) (Or.inl ⟨by rfl, ?_⟩) ?_ ?_
    rotate_left
    · intro w'
      go_simp
      with_reducible rfl
    rotate_left
    · simp only [Act.put, List.setIfInBounds_toArray, List.set_cons_zero, List.set_cons_succ, i64_w, i32_w]
      rfl
    refine take_ (i := 1) (N := some 105) (v := ?_) (a' := ?_) #[true, true, true, false, true, true, false, false, false, false, false, false] rfl rfl (by kernel_rfl) (fun _ _ _ h => h) (Or.inl ⟨by rfl, ?_⟩) hHeld ?_ ?_
    rotate_left
    · rintro w' ⟨s0, s1, s2⟩
      go_simp
      with_reducible rfl
    rotate_left
    · simp only [Act.put, List.setIfInBounds_toArray, List.set_cons_zero, List.set_cons_succ, i64_w, i32_w]
      rfl
    refine take_ (i := 3) (N := some 107) (v := ?_) (a' := ?_) #[true, true, true, true, true, true, false, false, false, false, false, false] rfl rfl (by kernel_rfl) (fun _ _ _ h => h) (Or.inl ⟨by rfl, ?_⟩) hHeld ?_ ?_
    rotate_left
    · rintro w' ⟨s0, s1, s2⟩
      go_simp
      with_reducible rfl
    rotate_left
    · simp only [Act.put, List.setIfInBounds_toArray, List.set_cons_zero, List.set_cons_succ, i64_w, i32_w]
      rfl
    refine take_ (i := 6) (N := some 110) (v := ?_) (a' := ?_) #[true, true, true, true, true, true, true, false, false, false, false, false] rfl rfl (by kernel_rfl) (fun _ _ _ h => h) (Or.inl ⟨by rfl, ?_⟩) hHeld ?_ ?_
    rotate_left
    · rintro w' ⟨s0, s1, s2⟩
      go_simp
      with_reducible rfl
    rotate_left
    · simp only [Act.put, List.setIfInBounds_toArray, List.set_cons_zero, List.set_cons_succ, i64_w, i32_w]
      rfl
    refine pure_ (i := 7) (N := some 111) (v := ?_) (a' := ?_) #[true, true, true, true, true, true, true, true, false, false, false, false] rfl rfl (by kernel_rfl) (fun _ _ _ h => h) (Or.inl ⟨by rfl, ?_⟩) ?_ ?_
    rotate_left
    · intro w'
      go_simp
      with_reducible rfl
    rotate_left
    · simp only [Act.put, List.setIfInBounds_toArray, List.set_cons_zero, List.set_cons_succ, i64_w, i32_w]
      rfl
    refine one_ (i := 8) (N := some 112) #[true, true, true, true, true, true, true, true, true, false, false, false] rfl rfl (by kernel_rfl) (by decide) (fun K hK => ?_)
    refine goes_ Try.func60 (by kernel_rfl) rfl #[.int .i64 ((dn l 0 : Nat) : Int), .int .i64 ((dn l 1 : Nat) : Int), .func (.func 61) #[.pointer (some ⟨gs 2, 0, none⟩)] #[]] (by rfl) rfl rfl (by simp only [List.map_toArray, List.map_cons, List.map_nil]; rfl) ?_
    have hq0 := hrd5.rd 2 (by decide)
    have hq1 := hrd5.bi 2 (by decide)
    rw [show (upd (upd (s0 l) 0 (rD l).2) 1 ([], false)) 2 = (sec l 2, false) from by simp [upd, s0]] at hq0 hq1
    with_reducible refine (rows_less (dn l 0) (dn l 1) (by have := HDS.out; have := dI_nn l 0; omega) (by have := HDS.out; have := dI_nn l 1; omega) (gs 2) (sec l 2, false) w5 hq0 hq1.1 hq1.2).mono ?_
    rintro e w7 ⟨v7, rfl, hR7_, hr7_, hk7⟩
    refine ⟨_, rfl, ?_⟩
    have hR7 : Kd.R (Kd.slice 3 (Kd.int .i64)) 24 w7 w5.heap.size (fun _ => True) v7 (r3 l).1 := hR7_
    have hr7 : RBS w7 (gs 2) (r3 l).2 := hr7_
    have hq2 : BI (r3 l).2.1 ∧ (r3 l).2.1.length ≤ (sec l 2).length := (fine_many (fine_many fine_less _) _) _ hq1.1
    clear hR7_ hr7_ hq0
    obtain ⟨A21, c21, e7⟩ := Kd.R_slice hR7
    subst e7
    have hrd7 : RD8 w7 N gs (upd (upd (upd (s0 l) 0 (rD l).2) 1 ([], false)) 2 (r3 l).2) 8 := hrd5.call (j := 2) (by decide) hk7.1 hr7 (by rw [show (upd (upd (s0 l) 0 (rD l).2) 1 ([], false)) 2 = (sec l 2, false) from by simp [upd, s0]]; exact hq2)
    have hpa7 := hk7.1.blk hpa5 (HGS.out 2 (by decide)).2.1.symm (by simp)
    have hbd7 := hk7.1.blk hbd5 (HGS.out 2 (by decide)).1.symm (by simp)
    have hTB7 : TBlk w7 b0 ⟨sec l 1, [], [], [], [], [], [], []⟩ ⟨none, 0, none, 0, none, 0, none, 0, none, 0, none, 0, none, 0⟩ 29 := hk7.1.blk hTB5 (HGS.out 2 (by decide)).2.2.1.symm (by simp)
    have hlt7 := hlt5.keep hk7.1 (HLO.out.1 2 (by decide))
    have hB7 := keep_below hB5 hk7 (by have := HGS.out 2 (by decide); have := HNW.out; omega)
    have hnn7 : NN ≤ w7.heap.size := Nat.le_trans hnn5 hk7.1.1
    obtain ⟨_, hcF7, hF7⟩ := RF_ hR7 hnn5
    have y0 := (TBlk.mid hTB7 HX7.out 0 (by decide)).trans (show _ = some (Value.slice none 0 0) from rfl)
    have y1 := blk_frozen hTB7 256
    clear hR7 hr7 hrd5 hpa5 hbd5 hTB5 hlt5 hB5 hnn5
    refine hK.out _ _ ⟨((blk_cell hbd7 0).trans (by rw [DL7, ← dI_nn]; rfl)), ((blk_cell hbd7 1).trans (by rw [DL7, ← dI_nn]; rfl)), ((blk_cell hpa7 3).trans rfl)⟩ (fun hHeld => ?_)
    clear hK K
    refine norm_ (a' := ?_) ?_ ?_
    rotate_left
    · show Act.put _ (some 112) _ = _
      simp only [Act.put, List.setIfInBounds_toArray, List.set_cons_zero, List.set_cons_succ, i64_w, i32_w]
      rfl
    refine pure_ (i := 9) (N := some 113) (v := ?_) (a' := ?_) #[true, true, true, true, true, true, true, true, true, true, false, false] rfl rfl (by kernel_rfl) (fun _ _ _ h => h) (Or.inl ⟨by rfl, ?_⟩) ?_ ?_
    rotate_left
    · intro w'
      go_simp
      with_reducible rfl
    rotate_left
    · simp only [Act.put, List.setIfInBounds_toArray, List.set_cons_zero, List.set_cons_succ, i64_w, i32_w]
      rfl
    refine pure_ (i := 10) (N := some 114) (v := ?_) (a' := ?_) #[true, true, true, true, true, true, true, true, true, true, true, false] rfl rfl (by kernel_rfl) (fun _ _ _ h => h) (Or.inl ⟨by rfl, ?_⟩) ?_ ?_
    rotate_left
    · intro w'
      go_simp
      with_reducible rfl
    rotate_left
    · simp only [Act.put, List.setIfInBounds_toArray, List.set_cons_zero, List.set_cons_succ, i64_w, i32_w]
      rfl
    refine one_ (i := 11) (N := none) #[true, true, true, true, true, true, true, true, true, true, true, true] rfl rfl (by kernel_rfl) (by decide) (fun K hK => ?_)
    refine skip_ (w1 := ?_) (by rfl) rfl ?_ ?_
    rotate_left
    · (go_simp; rfl)
    have hset := KB.set w7 b0 256 (.slice A21 (r3 l).1.length c21)
    have hTB8 : TBlk (w7.setCell ⟨b0, 256, none⟩ (.slice A21 (r3 l).1.length c21)) b0 ⟨sec l 1, (r3 l).1, [], [], [], [], [], []⟩ ⟨A21, c21, none, 0, none, 0, none, 0, none, 0, none, 0, none, 0⟩ 29 := blk_put (cs' := (tcells ⟨sec l 1, (r3 l).1, [], [], [], [], [], []⟩ ⟨A21, c21, none, 0, none, 0, none, 0, none, 0, none, 0, none, 0⟩).toArray) hTB7 256 (.slice A21 (r3 l).1.length c21) (set1 (T := ⟨sec l 1, [], [], [], [], [], [], []⟩) (p := ⟨none, 0, none, 0, none, 0, none, 0, none, 0, none, 0, none, 0⟩) HX7.out _ _ _)
    have hrd8 := hrd7.keep hset.1 (tcells_nb hTB7) (fun j hj => (HGS.out j hj).2.2.1)
    have hpa8 := hset.1.blk hpa7 HGA.out (by simp)
    have hbd8 := hset.1.blk hbd7 HGD.out.2.1 (by simp)
    have hB8 := keep_below hB7 hset HZ0.out
    have hnn8 : NN ≤ (w7.setCell ⟨b0, 256, none⟩ (.slice A21 (r3 l).1.length c21)).heap.size := Nat.le_trans hnn7 hset.1.1
    have hlt8 : LT (w7.setCell ⟨b0, 256, none⟩ (.slice A21 (r3 l).1.length c21)) (fun k => NN ≤ k) ⟨sec l 1, (r3 l).1, [], [], [], [], [], []⟩ ⟨A21, c21, none, 0, none, 0, none, 0, none, 0, none, 0, none, 0⟩ := LT.keep (LT.s1 hlt7 hcF7 hF7) hset.1 HLO.out.2
    generalize w7.setCell ⟨b0, 256, none⟩ (.slice A21 (r3 l).1.length c21) = w8 at hTB8 hrd8 hpa8 hbd8 hB8 hnn8 hlt8 ⊢
    clear y0 y1 hTB7 hset hrd7 hpa7 hbd7 hB7 hnn7 hlt7 hcF7 hF7
    refine hK.out _ _ ⟨((blk_cell hbd8 0).trans (by rw [DL7, ← dI_nn]; rfl)), ((blk_cell hbd8 1).trans (by rw [DL7, ← dI_nn]; rfl)), ((blk_cell hpa8 3).trans rfl)⟩ (fun hHeld => ?_)
    clear hK K
    refine done_ (by kernel_rfl) ?_
    clear hHeld
    have hrd4 := hrd8
    have hpa4 := hpa8
    have hbd4 := hbd8
    have hTB4 := hTB8
    have hlt4 := hlt8
    have hB4 := hB8
    have hnn4 := hnn8
    clear hrd8 hpa8 hbd8 hTB8 hlt8 hB8 hnn8
    go_upto_region 22 with (fail)
    refine start_ (n := 10) (S := fun w' => w'.cell? ⟨gd, 0, none⟩ = some (.int .i64 ((dn l 0 : Nat) : Int)) ∧ w'.cell? ⟨ga, 4, none⟩ = some (.pointer (some ⟨gs 3, 0, none⟩))) (ds := []) #[false, false, false, false, false, false, false, false, false, false] (by kernel_rfl) rfl rfl ⟨((blk_cell hbd4 0).trans (by rw [DL7, ← dI_nn]; rfl)), ((blk_cell hpa4 4).trans rfl)⟩ (fun hHeld => ?_)
    generalize HW : w8.drew = w5 at hHeld ⊢
    have hrd5 : RD8 w5 N gs (upd (upd (upd (s0 l) 0 (rD l).2) 1 ([], false)) 2 (r3 l).2) 8 := by rw [← HW]; exact hrd4.below (below_drew (Below.refl _ _))
    have hpa5 : w5.heap[ga]? = some (.cells (PL gs 8).toArray 96 (0, 0)) := by rw [← HW]; exact hpa4
    have hbd5 : w5.heap[gd]? = some (.cells (DL l 7).toArray 99 (0, 0)) := by rw [← HW]; exact hbd4
    have hTB5 : TBlk w5 b0 ⟨sec l 1, (r3 l).1, [], [], [], [], [], []⟩ ⟨A21, c21, none, 0, none, 0, none, 0, none, 0, none, 0, none, 0⟩ 29 := by rw [← HW]; exact hTB4
    have hlt5 : LT w5 (fun k => NN ≤ k) ⟨sec l 1, (r3 l).1, [], [], [], [], [], []⟩ ⟨A21, c21, none, 0, none, 0, none, 0, none, 0, none, 0, none, 0⟩ := by rw [← HW]; exact hlt4.step (fun k _ _ => rfl)
    have hB5 : Below w.heap.size w w5 := by rw [← HW]; exact below_drew hB4
    have hnn5 : NN ≤ w5.heap.size := by rw [← HW]; exact hnn4
    clear hrd4 hpa4 hbd4 hTB4 hlt4 hB4 hnn4 HW
    refine pure_ (i := 0) (N := some 115) (v := ?_) (a' := ?_) #[true, false, false, false, false, false, false, false, false, false] rfl rfl (by kernel_rfl) (fun _ _ _ h => h) (Or.inl ⟨by rfl, ?_⟩) ?_ ?_
    rotate_left
    · intro w'
      go_simp
      with_reducible rfl
    rotate_left
    · simp only [Act.put, List.setIfInBounds_toArray, List.set_cons_zero, List.set_cons_succ, i64_w, i32_w]
      rfl
    refine pure_ (i := 2) (N := some 117) (v := ?_) (a' := ?_) #[true, false, true, false, false, false, false, false, false, false] rfl rfl (by kernel_rfl) (fun _ _ _ h => h) (Or.inl ⟨by rfl, ?_⟩) ?_ ?_
    rotate_left
    · intro w'
      go_simp
      with_reducible rfl
    rotate_left
    · simp only [Act.put, List.setIfInBounds_toArray, List.set_cons_zero, List.set_cons_succ, i64_w, i32_w]
      rfl
    refine pure_ (i := 3) (N := some 118) (v := ?_) (a' := ?_) #[true, false, true, true, false, false, false, false, false, false] rfl rfl (by kernel_rfl) (fun _ _ _ h => h) (Or.inl ⟨by rfl, ?_⟩) ?_ ?_
    rotate_left
    · intro w'
      go_simp
      with_reducible rfl
    rotate_left
    · simp only [Act.put, List.setIfInBounds_toArray, List.set_cons_zero, List.set_cons_succ, i64_w, i32_w]
      rfl
    refine take_ (i := 1) (N := some 116) (v := ?_) (a' := ?_) #[true, true, true, true, false, false, false, false, false, false] rfl rfl (by kernel_rfl) (fun _ _ _ h => h) (Or.inl ⟨by rfl, ?_⟩) hHeld ?_ ?_
    rotate_left
    · rintro w' ⟨s0, s1⟩
      go_simp
      with_reducible rfl
    rotate_left
    · simp only [Act.put, List.setIfInBounds_toArray, List.set_cons_zero, List.set_cons_succ, i64_w, i32_w]
      rfl
    refine take_ (i := 4) (N := some 119) (v := ?_) (a' := ?_) #[true, true, true, true, true, false, false, false, false, false] rfl rfl (by kernel_rfl) (fun _ _ _ h => h) (Or.inl ⟨by rfl, ?_⟩) hHeld ?_ ?_
    rotate_left
    · rintro w' ⟨s0, s1⟩
      go_simp
      with_reducible rfl
    rotate_left
    · simp only [Act.put, List.setIfInBounds_toArray, List.set_cons_zero, List.set_cons_succ, i64_w, i32_w]
      rfl
    refine pure_ (i := 5) (N := some 120) (v := ?_) (a' := ?_) #[true, true, true, true, true, true, false, false, false, false] rfl rfl (by kernel_rfl) (fun _ _ _ h => h) (Or.inl ⟨by rfl, ?_⟩) ?_ ?_
    rotate_left
    · intro w'
      go_simp
      with_reducible rfl
    rotate_left
    · simp only [Act.put, List.setIfInBounds_toArray, List.set_cons_zero, List.set_cons_succ, i64_w, i32_w]
      rfl
    refine one_ (i := 6) (N := some 121) #[true, true, true, true, true, true, true, false, false, false] rfl rfl (by kernel_rfl) (by decide) (fun K hK => ?_)
    refine goes_ Try.func62 (by kernel_rfl) rfl #[.int .i64 ((dn l 0 : Nat) : Int), .func (.func 61) #[.pointer (some ⟨gs 3, 0, none⟩)] #[]] (by rfl) rfl rfl (by simp only [List.map_toArray, List.map_cons, List.map_nil]; rfl) ?_
    have hq0 := hrd5.rd 3 (by decide)
    have hq1 := hrd5.bi 3 (by decide)
    rw [show (upd (upd (upd (s0 l) 0 (rD l).2) 1 ([], false)) 2 (r3 l).2) 3 = (sec l 3, false) from by simp [upd, s0]] at hq0 hq1
    with_reducible refine (list_less (dn l 0) (by have := HDS.out; have := dI_nn l 0; omega) (gs 3) (sec l 3, false) w5 hq0 hq1.1 hq1.2).mono ?_
    rintro e w7 ⟨v7, rfl, hR7_, hr7_, hk7⟩
    refine ⟨_, rfl, ?_⟩
    have hR7 : Kd.R (Kd.int .i64) 3 w7 w5.heap.size (fun _ => True) v7 (r4 l).1 := hR7_
    have hr7 : RBS w7 (gs 3) (r4 l).2 := hr7_
    have hq2 : BI (r4 l).2.1 ∧ (r4 l).2.1.length ≤ (sec l 3).length := (fine_many fine_less _) _ hq1.1
    clear hR7_ hr7_ hq0
    obtain ⟨A22, c22, e7⟩ := Kd.R_slice hR7
    subst e7
    have hrd7 : RD8 w7 N gs (upd (upd (upd (upd (s0 l) 0 (rD l).2) 1 ([], false)) 2 (r3 l).2) 3 (r4 l).2) 8 := hrd5.call (j := 3) (by decide) hk7.1 hr7 (by rw [show (upd (upd (upd (s0 l) 0 (rD l).2) 1 ([], false)) 2 (r3 l).2) 3 = (sec l 3, false) from by simp [upd, s0]]; exact hq2)
    have hpa7 := hk7.1.blk hpa5 (HGS.out 3 (by decide)).2.1.symm (by simp)
    have hbd7 := hk7.1.blk hbd5 (HGS.out 3 (by decide)).1.symm (by simp)
    have hTB7 : TBlk w7 b0 ⟨sec l 1, (r3 l).1, [], [], [], [], [], []⟩ ⟨A21, c21, none, 0, none, 0, none, 0, none, 0, none, 0, none, 0⟩ 29 := hk7.1.blk hTB5 (HGS.out 3 (by decide)).2.2.1.symm (by simp)
    have hlt7 := hlt5.keep hk7.1 (HLO.out.1 3 (by decide))
    have hB7 := keep_below hB5 hk7 (by have := HGS.out 3 (by decide); have := HNW.out; omega)
    have hnn7 : NN ≤ w7.heap.size := Nat.le_trans hnn5 hk7.1.1
    obtain ⟨_, hcF7, hF7⟩ := RF_ hR7 hnn5
    have y0 := (TBlk.mid hTB7 HX7.out 1 (by decide)).trans (show _ = some (Value.slice none 0 0) from rfl)
    have y1 := blk_frozen hTB7 257
    clear hR7 hr7 hrd5 hpa5 hbd5 hTB5 hlt5 hB5 hnn5
    refine hK.out _ _ ⟨((blk_cell hbd7 0).trans (by rw [DL7, ← dI_nn]; rfl)), ((blk_cell hpa7 4).trans rfl)⟩ (fun hHeld => ?_)
    clear hK K
    refine norm_ (a' := ?_) ?_ ?_
    rotate_left
    · show Act.put _ (some 121) _ = _
      simp only [Act.put, List.setIfInBounds_toArray, List.set_cons_zero, List.set_cons_succ, i64_w, i32_w]
      rfl
    refine pure_ (i := 7) (N := some 122) (v := ?_) (a' := ?_) #[true, true, true, true, true, true, true, true, false, false] rfl rfl (by kernel_rfl) (fun _ _ _ h => h) (Or.inl ⟨by rfl, ?_⟩) ?_ ?_
    rotate_left
    · intro w'
      go_simp
      with_reducible rfl
    rotate_left
    · simp only [Act.put, List.setIfInBounds_toArray, List.set_cons_zero, List.set_cons_succ, i64_w, i32_w]
      rfl
    refine pure_ (i := 8) (N := some 123) (v := ?_) (a' := ?_) #[true, true, true, true, true, true, true, true, true, false] rfl rfl (by kernel_rfl) (fun _ _ _ h => h) (Or.inl ⟨by rfl, ?_⟩) ?_ ?_
    rotate_left
    · intro w'
      go_simp
      with_reducible rfl
    rotate_left
    · simp only [Act.put, List.setIfInBounds_toArray, List.set_cons_zero, List.set_cons_succ, i64_w, i32_w]
      rfl
    refine one_ (i := 9) (N := none) #[true, true, true, true, true, true, true, true, true, true] rfl rfl (by kernel_rfl) (by decide) (fun K hK => ?_)
    refine skip_ (w1 := ?_) (by rfl) rfl ?_ ?_
    rotate_left
    · (go_simp; rfl)
    have hset := KB.set w7 b0 257 (.slice A22 (r4 l).1.length c22)
    have hTB8 : TBlk (w7.setCell ⟨b0, 257, none⟩ (.slice A22 (r4 l).1.length c22)) b0 ⟨sec l 1, (r3 l).1, (r4 l).1, [], [], [], [], []⟩ ⟨A21, c21, A22, c22, none, 0, none, 0, none, 0, none, 0, none, 0⟩ 29 := blk_put (cs' := (tcells ⟨sec l 1, (r3 l).1, (r4 l).1, [], [], [], [], []⟩ ⟨A21, c21, A22, c22, none, 0, none, 0, none, 0, none, 0, none, 0⟩).toArray) hTB7 257 (.slice A22 (r4 l).1.length c22) (set2 (T := ⟨sec l 1, (r3 l).1, [], [], [], [], [], []⟩) (p := ⟨A21, c21, none, 0, none, 0, none, 0, none, 0, none, 0, none, 0⟩) HX7.out _ _ _)
    have hrd8 := hrd7.keep hset.1 (tcells_nb hTB7) (fun j hj => (HGS.out j hj).2.2.1)
    have hpa8 := hset.1.blk hpa7 HGA.out (by simp)
    have hbd8 := hset.1.blk hbd7 HGD.out.2.1 (by simp)
    have hB8 := keep_below hB7 hset HZ0.out
    have hnn8 : NN ≤ (w7.setCell ⟨b0, 257, none⟩ (.slice A22 (r4 l).1.length c22)).heap.size := Nat.le_trans hnn7 hset.1.1
    have hlt8 : LT (w7.setCell ⟨b0, 257, none⟩ (.slice A22 (r4 l).1.length c22)) (fun k => NN ≤ k) ⟨sec l 1, (r3 l).1, (r4 l).1, [], [], [], [], []⟩ ⟨A21, c21, A22, c22, none, 0, none, 0, none, 0, none, 0, none, 0⟩ := LT.keep (LT.s2 hlt7 hcF7 hF7) hset.1 HLO.out.2
    generalize w7.setCell ⟨b0, 257, none⟩ (.slice A22 (r4 l).1.length c22) = w8 at hTB8 hrd8 hpa8 hbd8 hB8 hnn8 hlt8 ⊢
    clear y0 y1 hTB7 hset hrd7 hpa7 hbd7 hB7 hnn7 hlt7 hcF7 hF7
    refine hK.out _ _ ⟨((blk_cell hbd8 0).trans (by rw [DL7, ← dI_nn]; rfl)), ((blk_cell hpa8 4).trans rfl)⟩ (fun hHeld => ?_)
    clear hK K
    refine done_ (by kernel_rfl) ?_
    clear hHeld
    have hrd4 := hrd8
    have hpa4 := hpa8
    have hbd4 := hbd8
    have hTB4 := hTB8
    have hlt4 := hlt8
    have hB4 := hB8
    have hnn4 := hnn8
    clear hrd8 hpa8 hbd8 hTB8 hlt8 hB8 hnn8
    go_upto_region 23 with (fail)
    refine start_ (n := 9) (S := fun w' => w'.cell? ⟨gd, 2, none⟩ = some (.int .i64 ((dn l 2 : Nat) : Int)) ∧ w'.cell? ⟨ga, 5, none⟩ = some (.pointer (some ⟨gs 4, 0, none⟩))) (ds := []) #[false, false, false, false, false, false, false, false, false] (by kernel_rfl) rfl rfl ⟨((blk_cell hbd4 2).trans (by rw [DL7, ← dI_nn]; rfl)), ((blk_cell hpa4 5).trans rfl)⟩ (fun hHeld => ?_)
    generalize HW : w8.drew = w5 at hHeld ⊢
    have hrd5 : RD8 w5 N gs (upd (upd (upd (upd (s0 l) 0 (rD l).2) 1 ([], false)) 2 (r3 l).2) 3 (r4 l).2) 8 := by rw [← HW]; exact hrd4.below (below_drew (Below.refl _ _))
    have hpa5 : w5.heap[ga]? = some (.cells (PL gs 8).toArray 96 (0, 0)) := by rw [← HW]; exact hpa4
    have hbd5 : w5.heap[gd]? = some (.cells (DL l 7).toArray 99 (0, 0)) := by rw [← HW]; exact hbd4
    have hTB5 : TBlk w5 b0 ⟨sec l 1, (r3 l).1, (r4 l).1, [], [], [], [], []⟩ ⟨A21, c21, A22, c22, none, 0, none, 0, none, 0, none, 0, none, 0⟩ 29 := by rw [← HW]; exact hTB4
    have hlt5 : LT w5 (fun k => NN ≤ k) ⟨sec l 1, (r3 l).1, (r4 l).1, [], [], [], [], []⟩ ⟨A21, c21, A22, c22, none, 0, none, 0, none, 0, none, 0, none, 0⟩ := by rw [← HW]; exact hlt4.step (fun k _ _ => rfl)
    have hB5 : Below w.heap.size w w5 := by rw [← HW]; exact below_drew hB4
    have hnn5 : NN ≤ w5.heap.size := by rw [← HW]; exact hnn4
    clear hrd4 hpa4 hbd4 hTB4 hlt4 hB4 hnn4 HW
    refine pure_ (i := 0) (N := some 124) (v := ?_) (a' := ?_) #[true, false, false, false, false, false, false, false, false] rfl rfl (by kernel_rfl) (fun _ _ _ h => h) (Or.inl ⟨by rfl, ?_⟩) ?_ ?_
    rotate_left
    · intro w'
      go_simp
      with_reducible rfl
    rotate_left
    · simp only [Act.put, List.setIfInBounds_toArray, List.set_cons_zero, List.set_cons_succ, i64_w, i32_w]
      rfl
    refine pure_ (i := 2) (N := some 126) (v := ?_) (a' := ?_) #[true, false, true, false, false, false, false, false, false] rfl rfl (by kernel_rfl) (fun _ _ _ h => h) (Or.inl ⟨by rfl, ?_⟩) ?_ ?_
    rotate_left
    · intro w'
      go_simp
      with_reducible rfl
    rotate_left
    · simp only [Act.put, List.setIfInBounds_toArray, List.set_cons_zero, List.set_cons_succ, i64_w, i32_w]
      rfl
    refine pure_ (i := 3) (N := some 127) (v := ?_) (a' := ?_) #[true, false, true, true, false, false, false, false, false] rfl rfl (by kernel_rfl) (fun _ _ _ h => h) (Or.inl ⟨by rfl, ?_⟩) ?_ ?_
    rotate_left
    · intro w'
      go_simp
      with_reducible rfl
    rotate_left
    · simp only [Act.put, List.setIfInBounds_toArray, List.set_cons_zero, List.set_cons_succ, i64_w, i32_w]
      rfl
    refine take_ (i := 1) (N := some 125) (v := ?_) (a' := ?_) #[true, true, true, true, false, false, false, false, false] rfl rfl (by kernel_rfl) (fun _ _ _ h => h) (Or.inl ⟨by rfl, ?_⟩) hHeld ?_ ?_
    rotate_left
    · rintro w' ⟨s0, s1⟩
      go_simp
      with_reducible rfl
    rotate_left
    · simp only [Act.put, List.setIfInBounds_toArray, List.set_cons_zero, List.set_cons_succ, i64_w, i32_w]
      rfl
    refine take_ (i := 4) (N := some 128) (v := ?_) (a' := ?_) #[true, true, true, true, true, false, false, false, false] rfl rfl (by kernel_rfl) (fun _ _ _ h => h) (Or.inl ⟨by rfl, ?_⟩) hHeld ?_ ?_
    rotate_left
    · rintro w' ⟨s0, s1⟩
      go_simp
      with_reducible rfl
    rotate_left
    · simp only [Act.put, List.setIfInBounds_toArray, List.set_cons_zero, List.set_cons_succ, i64_w, i32_w]
      rfl
    refine pure_ (i := 5) (N := some 129) (v := ?_) (a' := ?_) #[true, true, true, true, true, true, false, false, false] rfl rfl (by kernel_rfl) (fun _ _ _ h => h) (Or.inl ⟨by rfl, ?_⟩) ?_ ?_
    rotate_left
    · intro w'
      go_simp
      with_reducible rfl
    rotate_left
    · simp only [Act.put, List.setIfInBounds_toArray, List.set_cons_zero, List.set_cons_succ, i64_w, i32_w]
      rfl
    refine one_ (i := 6) (N := some 130) #[true, true, true, true, true, true, true, false, false] rfl rfl (by kernel_rfl) (by decide) (fun K hK => ?_)
    refine goes_ Try.func62 (by kernel_rfl) rfl #[.int .i64 ((dn l 2 : Nat) : Int), .func (.func 59) #[.pointer (some ⟨gs 4, 0, none⟩)] #[]] (by rfl) rfl rfl (by simp only [List.map_toArray, List.map_cons, List.map_nil]; rfl) ?_
    have hq0 := hrd5.rd 4 (by decide)
    have hq1 := hrd5.bi 4 (by decide)
    rw [show (upd (upd (upd (upd (s0 l) 0 (rD l).2) 1 ([], false)) 2 (r3 l).2) 3 (r4 l).2) 4 = (sec l 4, false) from by simp [upd, s0]] at hq0 hq1
    with_reducible refine (list_num (dn l 2) (by have := HDS.out; have := dI_nn l 2; omega) (gs 4) (sec l 4, false) w5 hq0 hq1.1 hq1.2).mono ?_
    rintro e w7 ⟨v7, rfl, hR7_, hr7_, hk7⟩
    refine ⟨_, rfl, ?_⟩
    have hR7 : Kd.R (Kd.int .i64) 3 w7 w5.heap.size (fun _ => True) v7 (r5 l).1 := hR7_
    have hr7 : RBS w7 (gs 4) (r5 l).2 := hr7_
    have hq2 : BI (r5 l).2.1 ∧ (r5 l).2.1.length ≤ (sec l 4).length := (fine_many fine_num _) _ hq1.1
    clear hR7_ hr7_ hq0
    obtain ⟨A23, c23, e7⟩ := Kd.R_slice hR7
    subst e7
    have hrd7 : RD8 w7 N gs (upd (upd (upd (upd (upd (s0 l) 0 (rD l).2) 1 ([], false)) 2 (r3 l).2) 3 (r4 l).2) 4 (r5 l).2) 8 := hrd5.call (j := 4) (by decide) hk7.1 hr7 (by rw [show (upd (upd (upd (upd (s0 l) 0 (rD l).2) 1 ([], false)) 2 (r3 l).2) 3 (r4 l).2) 4 = (sec l 4, false) from by simp [upd, s0]]; exact hq2)
    have hpa7 := hk7.1.blk hpa5 (HGS.out 4 (by decide)).2.1.symm (by simp)
    have hbd7 := hk7.1.blk hbd5 (HGS.out 4 (by decide)).1.symm (by simp)
    have hTB7 : TBlk w7 b0 ⟨sec l 1, (r3 l).1, (r4 l).1, [], [], [], [], []⟩ ⟨A21, c21, A22, c22, none, 0, none, 0, none, 0, none, 0, none, 0⟩ 29 := hk7.1.blk hTB5 (HGS.out 4 (by decide)).2.2.1.symm (by simp)
    have hlt7 := hlt5.keep hk7.1 (HLO.out.1 4 (by decide))
    have hB7 := keep_below hB5 hk7 (by have := HGS.out 4 (by decide); have := HNW.out; omega)
    have hnn7 : NN ≤ w7.heap.size := Nat.le_trans hnn5 hk7.1.1
    obtain ⟨_, hcF7, hF7⟩ := RF_ hR7 hnn5
    have y0 := (TBlk.tail hTB7 HX7.out 0).trans (show _ = some (Value.slice none 0 0) from rfl)
    have y1 := blk_frozen hTB7 258
    clear hR7 hr7 hrd5 hpa5 hbd5 hTB5 hlt5 hB5 hnn5
    refine hK.out _ _ ⟨((blk_cell hbd7 2).trans (by rw [DL7, ← dI_nn]; rfl)), ((blk_cell hpa7 5).trans rfl)⟩ (fun hHeld => ?_)
    clear hK K
    refine norm_ (a' := ?_) ?_ ?_
    rotate_left
    · show Act.put _ (some 130) _ = _
      simp only [Act.put, List.setIfInBounds_toArray, List.set_cons_zero, List.set_cons_succ, i64_w, i32_w]
      rfl
    refine pure_ (i := 7) (N := some 131) (v := ?_) (a' := ?_) #[true, true, true, true, true, true, true, true, false] rfl rfl (by kernel_rfl) (fun _ _ _ h => h) (Or.inl ⟨by rfl, ?_⟩) ?_ ?_
    rotate_left
    · intro w'
      go_simp
      with_reducible rfl
    rotate_left
    · simp only [Act.put, List.setIfInBounds_toArray, List.set_cons_zero, List.set_cons_succ, i64_w, i32_w]
      rfl
    refine one_ (i := 8) (N := none) #[true, true, true, true, true, true, true, true, true] rfl rfl (by kernel_rfl) (by decide) (fun K hK => ?_)
    refine skip_ (w1 := ?_) (by rfl) rfl ?_ ?_
    rotate_left
    · (go_simp; rfl)
    have hset := KB.set w7 b0 258 (.slice A23 (r5 l).1.length c23)
    have hTB8 : TBlk (w7.setCell ⟨b0, 258, none⟩ (.slice A23 (r5 l).1.length c23)) b0 ⟨sec l 1, (r3 l).1, (r4 l).1, (r5 l).1, [], [], [], []⟩ ⟨A21, c21, A22, c22, A23, c23, none, 0, none, 0, none, 0, none, 0⟩ 29 := blk_put (cs' := (tcells ⟨sec l 1, (r3 l).1, (r4 l).1, (r5 l).1, [], [], [], []⟩ ⟨A21, c21, A22, c22, A23, c23, none, 0, none, 0, none, 0, none, 0⟩).toArray) hTB7 258 (.slice A23 (r5 l).1.length c23) (set3 (T := ⟨sec l 1, (r3 l).1, (r4 l).1, [], [], [], [], []⟩) (p := ⟨A21, c21, A22, c22, none, 0, none, 0, none, 0, none, 0, none, 0⟩) HX7.out _ _ _)
    have hrd8 := hrd7.keep hset.1 (tcells_nb hTB7) (fun j hj => (HGS.out j hj).2.2.1)
    have hpa8 := hset.1.blk hpa7 HGA.out (by simp)
    have hbd8 := hset.1.blk hbd7 HGD.out.2.1 (by simp)
    have hB8 := keep_below hB7 hset HZ0.out
    have hnn8 : NN ≤ (w7.setCell ⟨b0, 258, none⟩ (.slice A23 (r5 l).1.length c23)).heap.size := Nat.le_trans hnn7 hset.1.1
    have hlt8 : LT (w7.setCell ⟨b0, 258, none⟩ (.slice A23 (r5 l).1.length c23)) (fun k => NN ≤ k) ⟨sec l 1, (r3 l).1, (r4 l).1, (r5 l).1, [], [], [], []⟩ ⟨A21, c21, A22, c22, A23, c23, none, 0, none, 0, none, 0, none, 0⟩ := LT.keep (LT.s3 hlt7 hcF7 hF7) hset.1 HLO.out.2
    generalize w7.setCell ⟨b0, 258, none⟩ (.slice A23 (r5 l).1.length c23) = w8 at hTB8 hrd8 hpa8 hbd8 hB8 hnn8 hlt8 ⊢
    clear y0 y1 hTB7 hset hrd7 hpa7 hbd7 hB7 hnn7 hlt7 hcF7 hF7
    refine hK.out _ _ ⟨((blk_cell hbd8 2).trans (by rw [DL7, ← dI_nn]; rfl)), ((blk_cell hpa8 5).trans rfl)⟩ (fun hHeld => ?_)
    clear hK K
    refine done_ (by kernel_rfl) ?_
    clear hHeld
    have hrd4 := hrd8
    have hpa4 := hpa8
    have hbd4 := hbd8
    have hTB4 := hTB8
    have hlt4 := hlt8
    have hB4 := hB8
    have hnn4 := hnn8
    clear hrd8 hpa8 hbd8 hTB8 hlt8 hB8 hnn8
    go_upto_region 24 with (fail)
    refine start_ (n := 11) (S := fun w' => w'.cell? ⟨gd, 3, none⟩ = some (.int .i64 ((dn l 3 : Nat) : Int)) ∧ w'.cell? ⟨gd, 4, none⟩ = some (.int .i64 ((dn l 4 : Nat) : Int)) ∧ w'.cell? ⟨ga, 6, none⟩ = some (.pointer (some ⟨gs 5, 0, none⟩))) (ds := []) #[false, false, false, false, false, false, false, false, false, false, false] (by kernel_rfl) rfl rfl ⟨((blk_cell hbd4 3).trans (by rw [DL7, ← dI_nn]; rfl)), ((blk_cell hbd4 4).trans (by rw [DL7, ← dI_nn]; rfl)), ((blk_cell hpa4 6).trans rfl)⟩ (fun hHeld => ?_)
    generalize HW : w8.drew = w5 at hHeld ⊢
    have hrd5 : RD8 w5 N gs (upd (upd (upd (upd (upd (s0 l) 0 (rD l).2) 1 ([], false)) 2 (r3 l).2) 3 (r4 l).2) 4 (r5 l).2) 8 := by rw [← HW]; exact hrd4.below (below_drew (Below.refl _ _))
    have hpa5 : w5.heap[ga]? = some (.cells (PL gs 8).toArray 96 (0, 0)) := by rw [← HW]; exact hpa4
    have hbd5 : w5.heap[gd]? = some (.cells (DL l 7).toArray 99 (0, 0)) := by rw [← HW]; exact hbd4
    have hTB5 : TBlk w5 b0 ⟨sec l 1, (r3 l).1, (r4 l).1, (r5 l).1, [], [], [], []⟩ ⟨A21, c21, A22, c22, A23, c23, none, 0, none, 0, none, 0, none, 0⟩ 29 := by rw [← HW]; exact hTB4
    have hlt5 : LT w5 (fun k => NN ≤ k) ⟨sec l 1, (r3 l).1, (r4 l).1, (r5 l).1, [], [], [], []⟩ ⟨A21, c21, A22, c22, A23, c23, none, 0, none, 0, none, 0, none, 0⟩ := by rw [← HW]; exact hlt4.step (fun k _ _ => rfl)
    have hB5 : Below w.heap.size w w5 := by rw [← HW]; exact below_drew hB4
    have hnn5 : NN ≤ w5.heap.size := by rw [← HW]; exact hnn4
    clear hrd4 hpa4 hbd4 hTB4 hlt4 hB4 hnn4 HW
    refine pure_ (i := 0) (N := some 132) (v := ?_) (a' := ?_) #[true, false, false, false, false, false, false, false, false, false, false] rfl rfl (by kernel_rfl) (fun _ _ _ h => h) (Or.inl ⟨by rfl, ?_⟩) ?_ ?_
    rotate_left
    · intro w'
      go_simp
      with_reducible rfl
    rotate_left
    · simp only [Act.put, List.setIfInBounds_toArray, List.set_cons_zero, List.set_cons_succ, i64_w, i32_w]
      rfl
    refine pure_ (i := 2) (N := some 134) (v := ?_) (a' := ?_) #[true, false, true, false, false, false, false, false, false, false, false] rfl rfl (by kernel_rfl) (fun _ _ _ h => h) (Or.inl ⟨by rfl, ?_⟩) ?_ ?_
    rotate_left
    · intro w'
      go_simp
      with_reducible rfl
    rotate_left
    · simp only [Act.put, List.setIfInBounds_toArray, List.set_cons_zero, List.set_cons_succ, i64_w, i32_w]
      rfl
    refine pure_ (i := 4) (N := some 136) (v := ?_) (a' := ?_) #[true, false, true, false, true, false, false, false, false, false, false] rfl rfl (by kernel_rfl) (fun _ _ _ h => h) (Or.inl ⟨by rfl, ?_⟩) ?_ ?_
    rotate_left
    · intro w'
      go_simp
      with_reducible rfl
    rotate_left
    · simp only [Act.put, List.setIfInBounds_toArray, List.set_cons_zero, List.set_cons_succ, i64_w, i32_w]
      rfl
    refine pure_ (i := 5) (N := some 137) (v := ?_) (a' := ?_) #[true, false, true, false, true, true, false, false, false, false, false] rfl rfl (by kernel_rfl) (fun _ _ _ h => h) (Or.inl ⟨by rfl, ?_⟩) ?_ ?_
    rotate_left
    · intro w'
      go_simp
      with_reducible rfl
    rotate_left
    · simp only [Act.put, List.setIfInBounds_toArray, List.set_cons_zero, List.set_cons_succ, i64_w, i32_w]
      rfl
    refine take_ (i := 1) (N := some 133) (v := ?_) (a' := ?_) #[true, true, true, false, true, true, false, false, false, false, false] rfl rfl (by kernel_rfl) (fun _ _ _ h => h) (Or.inl ⟨by rfl, ?_⟩) hHeld ?_ ?_
    rotate_left
    · rintro w' ⟨s0, s1, s2⟩
      go_simp
      with_reducible rfl
    rotate_left
    · simp only [Act.put, List.setIfInBounds_toArray, List.set_cons_zero, List.set_cons_succ, i64_w, i32_w]
      rfl
    refine take_ (i := 3) (N := some 135) (v := ?_) (a' := ?_) #[true, true, true, true, true, true, false, false, false, false, false] rfl rfl (by kernel_rfl) (fun _ _ _ h => h) (Or.inl ⟨by rfl, ?_⟩) hHeld ?_ ?_
    rotate_left
    · rintro w' ⟨s0, s1, s2⟩
      go_simp
      with_reducible rfl
    rotate_left
    · simp only [Act.put, List.setIfInBounds_toArray, List.set_cons_zero, List.set_cons_succ, i64_w, i32_w]
      rfl
    refine take_ (i := 6) (N := some 138) (v := ?_) (a' := ?_) #[true, true, true, true, true, true, true, false, false, false, false] rfl rfl (by kernel_rfl) (fun _ _ _ h => h) (Or.inl ⟨by rfl, ?_⟩) hHeld ?_ ?_
    rotate_left
    · rintro w' ⟨s0, s1, s2⟩
      go_simp
      with_reducible rfl
    rotate_left
    · simp only [Act.put, List.setIfInBounds_toArray, List.set_cons_zero, List.set_cons_succ, i64_w, i32_w]
      rfl
    refine pure_ (i := 7) (N := some 139) (v := ?_) (a' := ?_) #[true, true, true, true, true, true, true, true, false, false, false] rfl rfl (by kernel_rfl) (fun _ _ _ h => h) (Or.inl ⟨by rfl, ?_⟩) ?_ ?_
    rotate_left
    · intro w'
      go_simp
      with_reducible rfl
    rotate_left
    · simp only [Act.put, List.setIfInBounds_toArray, List.set_cons_zero, List.set_cons_succ, i64_w, i32_w]
      rfl
    refine one_ (i := 8) (N := some 140) #[true, true, true, true, true, true, true, true, true, false, false] rfl rfl (by kernel_rfl) (by decide) (fun K hK => ?_)
    refine goes_ Try.func63 (by kernel_rfl) rfl #[.int .i64 ((dn l 3 : Nat) : Int), .int .i64 ((dn l 4 : Nat) : Int), .func (.func 64) #[.pointer (some ⟨gs 5, 0, none⟩)] #[]] (by rfl) rfl rfl (by simp only [List.map_toArray, List.map_cons, List.map_nil]; rfl) ?_
    have hq0 := hrd5.rd 5 (by decide)
    have hq1 := hrd5.bi 5 (by decide)
    rw [show (upd (upd (upd (upd (upd (s0 l) 0 (rD l).2) 1 ([], false)) 2 (r3 l).2) 3 (r4 l).2) 4 (r5 l).2) 5 = (sec l 5, false) from by simp [upd, s0]] at hq0 hq1
    with_reducible refine (rows_act (dn l 3) (dn l 4) (by have := HDS.out; have := dI_nn l 3; omega) (by have := HDS.out; have := dI_nn l 4; omega) (gs 5) (sec l 5, false) w5 hq0 hq1.1 hq1.2).mono ?_
    rintro e w7 ⟨v7, rfl, hR7_, hr7_, hk7⟩
    refine ⟨_, rfl, ?_⟩
    have hR7 : Kd.R (Kd.slice 38 k38) 39 w7 w5.heap.size (fun _ => True) v7 (r6 l).1 := hR7_
    have hr7 : RBS w7 (gs 5) (r6 l).2 := hr7_
    have hq2 : BI (r6 l).2.1 ∧ (r6 l).2.1.length ≤ (sec l 5).length := (fine_many (fine_many fine_act _) _) _ hq1.1
    clear hR7_ hr7_ hq0
    obtain ⟨A24, c24, e7⟩ := Kd.R_slice hR7
    subst e7
    have hrd7 : RD8 w7 N gs (upd (upd (upd (upd (upd (upd (s0 l) 0 (rD l).2) 1 ([], false)) 2 (r3 l).2) 3 (r4 l).2) 4 (r5 l).2) 5 (r6 l).2) 8 := hrd5.call (j := 5) (by decide) hk7.1 hr7 (by rw [show (upd (upd (upd (upd (upd (s0 l) 0 (rD l).2) 1 ([], false)) 2 (r3 l).2) 3 (r4 l).2) 4 (r5 l).2) 5 = (sec l 5, false) from by simp [upd, s0]]; exact hq2)
    have hpa7 := hk7.1.blk hpa5 (HGS.out 5 (by decide)).2.1.symm (by simp)
    have hbd7 := hk7.1.blk hbd5 (HGS.out 5 (by decide)).1.symm (by simp)
    have hTB7 : TBlk w7 b0 ⟨sec l 1, (r3 l).1, (r4 l).1, (r5 l).1, [], [], [], []⟩ ⟨A21, c21, A22, c22, A23, c23, none, 0, none, 0, none, 0, none, 0⟩ 29 := hk7.1.blk hTB5 (HGS.out 5 (by decide)).2.2.1.symm (by simp)
    have hlt7 := hlt5.keep hk7.1 (HLO.out.1 5 (by decide))
    have hB7 := keep_below hB5 hk7 (by have := HGS.out 5 (by decide); have := HNW.out; omega)
    have hnn7 : NN ≤ w7.heap.size := Nat.le_trans hnn5 hk7.1.1
    obtain ⟨_, hcF7, hF7⟩ := RF_ hR7 hnn5
    have y0 := (TBlk.tail hTB7 HX7.out 1).trans (show _ = some (Value.slice none 0 0) from rfl)
    have y1 := blk_frozen hTB7 259
    clear hR7 hr7 hrd5 hpa5 hbd5 hTB5 hlt5 hB5 hnn5
    refine hK.out _ _ ⟨((blk_cell hbd7 3).trans (by rw [DL7, ← dI_nn]; rfl)), ((blk_cell hbd7 4).trans (by rw [DL7, ← dI_nn]; rfl)), ((blk_cell hpa7 6).trans rfl)⟩ (fun hHeld => ?_)
    clear hK K
    refine norm_ (a' := ?_) ?_ ?_
    rotate_left
    · show Act.put _ (some 140) _ = _
      simp only [Act.put, List.setIfInBounds_toArray, List.set_cons_zero, List.set_cons_succ, i64_w, i32_w]
      rfl
    refine pure_ (i := 9) (N := some 141) (v := ?_) (a' := ?_) #[true, true, true, true, true, true, true, true, true, true, false] rfl rfl (by kernel_rfl) (fun _ _ _ h => h) (Or.inl ⟨by rfl, ?_⟩) ?_ ?_
    rotate_left
    · intro w'
      go_simp
      with_reducible rfl
    rotate_left
    · simp only [Act.put, List.setIfInBounds_toArray, List.set_cons_zero, List.set_cons_succ, i64_w, i32_w]
      rfl
    refine one_ (i := 10) (N := none) #[true, true, true, true, true, true, true, true, true, true, true] rfl rfl (by kernel_rfl) (by decide) (fun K hK => ?_)
    refine skip_ (w1 := ?_) (by rfl) rfl ?_ ?_
    rotate_left
    · (go_simp; rfl)
    have hset := KB.set w7 b0 259 (.slice A24 (r6 l).1.length c24)
    have hTB8 : TBlk (w7.setCell ⟨b0, 259, none⟩ (.slice A24 (r6 l).1.length c24)) b0 ⟨sec l 1, (r3 l).1, (r4 l).1, (r5 l).1, (r6 l).1, [], [], []⟩ ⟨A21, c21, A22, c22, A23, c23, A24, c24, none, 0, none, 0, none, 0⟩ 29 := blk_put (cs' := (tcells ⟨sec l 1, (r3 l).1, (r4 l).1, (r5 l).1, (r6 l).1, [], [], []⟩ ⟨A21, c21, A22, c22, A23, c23, A24, c24, none, 0, none, 0, none, 0⟩).toArray) hTB7 259 (.slice A24 (r6 l).1.length c24) (set4 (T := ⟨sec l 1, (r3 l).1, (r4 l).1, (r5 l).1, [], [], [], []⟩) (p := ⟨A21, c21, A22, c22, A23, c23, none, 0, none, 0, none, 0, none, 0⟩) HX7.out _ _ _)
    have hrd8 := hrd7.keep hset.1 (tcells_nb hTB7) (fun j hj => (HGS.out j hj).2.2.1)
    have hpa8 := hset.1.blk hpa7 HGA.out (by simp)
    have hbd8 := hset.1.blk hbd7 HGD.out.2.1 (by simp)
    have hB8 := keep_below hB7 hset HZ0.out
    have hnn8 : NN ≤ (w7.setCell ⟨b0, 259, none⟩ (.slice A24 (r6 l).1.length c24)).heap.size := Nat.le_trans hnn7 hset.1.1
    have hlt8 : LT (w7.setCell ⟨b0, 259, none⟩ (.slice A24 (r6 l).1.length c24)) (fun k => NN ≤ k) ⟨sec l 1, (r3 l).1, (r4 l).1, (r5 l).1, (r6 l).1, [], [], []⟩ ⟨A21, c21, A22, c22, A23, c23, A24, c24, none, 0, none, 0, none, 0⟩ := LT.keep (LT.s4 hlt7 hcF7 hF7) hset.1 HLO.out.2
    generalize w7.setCell ⟨b0, 259, none⟩ (.slice A24 (r6 l).1.length c24) = w8 at hTB8 hrd8 hpa8 hbd8 hB8 hnn8 hlt8 ⊢
    clear y0 y1 hTB7 hset hrd7 hpa7 hbd7 hB7 hnn7 hlt7 hcF7 hF7
    refine hK.out _ _ ⟨((blk_cell hbd8 3).trans (by rw [DL7, ← dI_nn]; rfl)), ((blk_cell hbd8 4).trans (by rw [DL7, ← dI_nn]; rfl)), ((blk_cell hpa8 6).trans rfl)⟩ (fun hHeld => ?_)
    clear hK K
    refine done_ (by kernel_rfl) ?_
    clear hHeld
    have hrd4 := hrd8
    have hpa4 := hpa8
    have hbd4 := hbd8
    have hTB4 := hTB8
    have hlt4 := hlt8
    have hB4 := hB8
    have hnn4 := hnn8
    clear hrd8 hpa8 hbd8 hTB8 hlt8 hB8 hnn8
    go_upto_region 25 with (fail)
    refine start_ (n := 11) (S := fun w' => w'.cell? ⟨gd, 3, none⟩ = some (.int .i64 ((dn l 3 : Nat) : Int)) ∧ w'.cell? ⟨gd, 5, none⟩ = some (.int .i64 ((dn l 5 : Nat) : Int)) ∧ w'.cell? ⟨ga, 7, none⟩ = some (.pointer (some ⟨gs 6, 0, none⟩))) (ds := []) #[false, false, false, false, false, false, false, false, false, false, false] (by kernel_rfl) rfl rfl ⟨((blk_cell hbd4 3).trans (by rw [DL7, ← dI_nn]; rfl)), ((blk_cell hbd4 5).trans (by rw [DL7, ← dI_nn]; rfl)), ((blk_cell hpa4 7).trans rfl)⟩ (fun hHeld => ?_)
    generalize HW : w8.drew = w5 at hHeld ⊢
    have hrd5 : RD8 w5 N gs (upd (upd (upd (upd (upd (upd (s0 l) 0 (rD l).2) 1 ([], false)) 2 (r3 l).2) 3 (r4 l).2) 4 (r5 l).2) 5 (r6 l).2) 8 := by rw [← HW]; exact hrd4.below (below_drew (Below.refl _ _))
    have hpa5 : w5.heap[ga]? = some (.cells (PL gs 8).toArray 96 (0, 0)) := by rw [← HW]; exact hpa4
    have hbd5 : w5.heap[gd]? = some (.cells (DL l 7).toArray 99 (0, 0)) := by rw [← HW]; exact hbd4
    have hTB5 : TBlk w5 b0 ⟨sec l 1, (r3 l).1, (r4 l).1, (r5 l).1, (r6 l).1, [], [], []⟩ ⟨A21, c21, A22, c22, A23, c23, A24, c24, none, 0, none, 0, none, 0⟩ 29 := by rw [← HW]; exact hTB4
    have hlt5 : LT w5 (fun k => NN ≤ k) ⟨sec l 1, (r3 l).1, (r4 l).1, (r5 l).1, (r6 l).1, [], [], []⟩ ⟨A21, c21, A22, c22, A23, c23, A24, c24, none, 0, none, 0, none, 0⟩ := by rw [← HW]; exact hlt4.step (fun k _ _ => rfl)
    have hB5 : Below w.heap.size w w5 := by rw [← HW]; exact below_drew hB4
    have hnn5 : NN ≤ w5.heap.size := by rw [← HW]; exact hnn4
    clear hrd4 hpa4 hbd4 hTB4 hlt4 hB4 hnn4 HW
    refine pure_ (i := 0) (N := some 142) (v := ?_) (a' := ?_) #[true, false, false, false, false, false, false, false, false, false, false] rfl rfl (by kernel_rfl) (fun _ _ _ h => h) (Or.inl ⟨by rfl, ?_⟩) ?_ ?_
    rotate_left
    · intro w'
      go_simp
      with_reducible rfl
    rotate_left
    · simp only [Act.put, List.setIfInBounds_toArray, List.set_cons_zero, List.set_cons_succ, i64_w, i32_w]
      rfl
    refine pure_ (i := 2) (N := some 144) (v := ?_) (a' := ?_) #[true, false, true, false, false, false, false, false, false, false, false] rfl rfl (by kernel_rfl) (fun _ _ _ h => h) (Or.inl ⟨by rfl, ?_⟩) ?_ ?_
    rotate_left
    · intro w'
      go_simp
      with_reducible rfl
    rotate_left
    · simp only [Act.put, List.setIfInBounds_toArray, List.set_cons_zero, List.set_cons_succ, i64_w, i32_w]
      rfl
    refine pure_ (i := 4) (N := some 146) (v := ?_) (a' := ?_) #[true, false, true, false, true, false, false, false, false, false, false] rfl rfl (by kernel_rfl) (fun _ _ _ h => h) (Or.inl ⟨by rfl, ?_⟩) ?_ ?_
    rotate_left
    · intro w'
      go_simp
      with_reducible rfl
    rotate_left
    · simp only [Act.put, List.setIfInBounds_toArray, List.set_cons_zero, List.set_cons_succ, i64_w, i32_w]
      rfl
    refine pure_ (i := 5) (N := some 147) (v := ?_) (a' := ?_) #[true, false, true, false, true, true, false, false, false, false, false] rfl rfl (by kernel_rfl) (fun _ _ _ h => h) (Or.inl ⟨by rfl, ?_⟩) ?_ ?_
    rotate_left
    · intro w'
      go_simp
      with_reducible rfl
    rotate_left
    · simp only [Act.put, List.setIfInBounds_toArray, List.set_cons_zero, List.set_cons_succ, i64_w, i32_w]
      rfl
    refine take_ (i := 1) (N := some 143) (v := ?_) (a' := ?_) #[true, true, true, false, true, true, false, false, false, false, false] rfl rfl (by kernel_rfl) (fun _ _ _ h => h) (Or.inl ⟨by rfl, ?_⟩) hHeld ?_ ?_
    rotate_left
    · rintro w' ⟨s0, s1, s2⟩
      go_simp
      with_reducible rfl
    rotate_left
    · simp only [Act.put, List.setIfInBounds_toArray, List.set_cons_zero, List.set_cons_succ, i64_w, i32_w]
      rfl
    refine take_ (i := 3) (N := some 145) (v := ?_) (a' := ?_) #[true, true, true, true, true, true, false, false, false, false, false] rfl rfl (by kernel_rfl) (fun _ _ _ h => h) (Or.inl ⟨by rfl, ?_⟩) hHeld ?_ ?_
    rotate_left
    · rintro w' ⟨s0, s1, s2⟩
      go_simp
      with_reducible rfl
    rotate_left
    · simp only [Act.put, List.setIfInBounds_toArray, List.set_cons_zero, List.set_cons_succ, i64_w, i32_w]
      rfl
    refine take_ (i := 6) (N := some 148) (v := ?_) (a' := ?_) #[true, true, true, true, true, true, true, false, false, false, false] rfl rfl (by kernel_rfl) (fun _ _ _ h => h) (Or.inl ⟨by rfl, ?_⟩) hHeld ?_ ?_
    rotate_left
    · rintro w' ⟨s0, s1, s2⟩
      go_simp
      with_reducible rfl
    rotate_left
    · simp only [Act.put, List.setIfInBounds_toArray, List.set_cons_zero, List.set_cons_succ, i64_w, i32_w]
      rfl
    refine pure_ (i := 7) (N := some 149) (v := ?_) (a' := ?_) #[true, true, true, true, true, true, true, true, false, false, false] rfl rfl (by kernel_rfl) (fun _ _ _ h => h) (Or.inl ⟨by rfl, ?_⟩) ?_ ?_
    rotate_left
    · intro w'
      go_simp
      with_reducible rfl
    rotate_left
    · simp only [Act.put, List.setIfInBounds_toArray, List.set_cons_zero, List.set_cons_succ, i64_w, i32_w]
      rfl
    refine one_ (i := 8) (N := some 150) #[true, true, true, true, true, true, true, true, true, false, false] rfl rfl (by kernel_rfl) (by decide) (fun K hK => ?_)
    refine goes_ Try.func60 (by kernel_rfl) rfl #[.int .i64 ((dn l 3 : Nat) : Int), .int .i64 ((dn l 5 : Nat) : Int), .func (.func 61) #[.pointer (some ⟨gs 6, 0, none⟩)] #[]] (by rfl) rfl rfl (by simp only [List.map_toArray, List.map_cons, List.map_nil]; rfl) ?_
    have hq0 := hrd5.rd 6 (by decide)
    have hq1 := hrd5.bi 6 (by decide)
    rw [show (upd (upd (upd (upd (upd (upd (s0 l) 0 (rD l).2) 1 ([], false)) 2 (r3 l).2) 3 (r4 l).2) 4 (r5 l).2) 5 (r6 l).2) 6 = (sec l 6, false) from by simp [upd, s0]] at hq0 hq1
    with_reducible refine (rows_less (dn l 3) (dn l 5) (by have := HDS.out; have := dI_nn l 3; omega) (by have := HDS.out; have := dI_nn l 5; omega) (gs 6) (sec l 6, false) w5 hq0 hq1.1 hq1.2).mono ?_
    rintro e w7 ⟨v7, rfl, hR7_, hr7_, hk7⟩
    refine ⟨_, rfl, ?_⟩
    have hR7 : Kd.R (Kd.slice 3 (Kd.int .i64)) 24 w7 w5.heap.size (fun _ => True) v7 (r7 l).1 := hR7_
    have hr7 : RBS w7 (gs 6) (r7 l).2 := hr7_
    have hq2 : BI (r7 l).2.1 ∧ (r7 l).2.1.length ≤ (sec l 6).length := (fine_many (fine_many fine_less _) _) _ hq1.1
    clear hR7_ hr7_ hq0
    obtain ⟨A25, c25, e7⟩ := Kd.R_slice hR7
    subst e7
    have hrd7 : RD8 w7 N gs (upd (upd (upd (upd (upd (upd (upd (s0 l) 0 (rD l).2) 1 ([], false)) 2 (r3 l).2) 3 (r4 l).2) 4 (r5 l).2) 5 (r6 l).2) 6 (r7 l).2) 8 := hrd5.call (j := 6) (by decide) hk7.1 hr7 (by rw [show (upd (upd (upd (upd (upd (upd (s0 l) 0 (rD l).2) 1 ([], false)) 2 (r3 l).2) 3 (r4 l).2) 4 (r5 l).2) 5 (r6 l).2) 6 = (sec l 6, false) from by simp [upd, s0]]; exact hq2)
    have hpa7 := hk7.1.blk hpa5 (HGS.out 6 (by decide)).2.1.symm (by simp)
    have hbd7 := hk7.1.blk hbd5 (HGS.out 6 (by decide)).1.symm (by simp)
    have hTB7 : TBlk w7 b0 ⟨sec l 1, (r3 l).1, (r4 l).1, (r5 l).1, (r6 l).1, [], [], []⟩ ⟨A21, c21, A22, c22, A23, c23, A24, c24, none, 0, none, 0, none, 0⟩ 29 := hk7.1.blk hTB5 (HGS.out 6 (by decide)).2.2.1.symm (by simp)
    have hlt7 := hlt5.keep hk7.1 (HLO.out.1 6 (by decide))
    have hB7 := keep_below hB5 hk7 (by have := HGS.out 6 (by decide); have := HNW.out; omega)
    have hnn7 : NN ≤ w7.heap.size := Nat.le_trans hnn5 hk7.1.1
    obtain ⟨_, hcF7, hF7⟩ := RF_ hR7 hnn5
    have y0 := (TBlk.tail hTB7 HX7.out 2).trans (show _ = some (Value.slice none 0 0) from rfl)
    have y1 := blk_frozen hTB7 260
    clear hR7 hr7 hrd5 hpa5 hbd5 hTB5 hlt5 hB5 hnn5
    refine hK.out _ _ ⟨((blk_cell hbd7 3).trans (by rw [DL7, ← dI_nn]; rfl)), ((blk_cell hbd7 5).trans (by rw [DL7, ← dI_nn]; rfl)), ((blk_cell hpa7 7).trans rfl)⟩ (fun hHeld => ?_)
    clear hK K
    refine norm_ (a' := ?_) ?_ ?_
    rotate_left
    · show Act.put _ (some 150) _ = _
      simp only [Act.put, List.setIfInBounds_toArray, List.set_cons_zero, List.set_cons_succ, i64_w, i32_w]
      rfl
    refine pure_ (i := 9) (N := some 151) (v := ?_) (a' := ?_) #[true, true, true, true, true, true, true, true, true, true, false] rfl rfl (by kernel_rfl) (fun _ _ _ h => h) (Or.inl ⟨by rfl, ?_⟩) ?_ ?_
    rotate_left
    · intro w'
      go_simp
      with_reducible rfl
    rotate_left
    · simp only [Act.put, List.setIfInBounds_toArray, List.set_cons_zero, List.set_cons_succ, i64_w, i32_w]
      rfl
    refine one_ (i := 10) (N := none) #[true, true, true, true, true, true, true, true, true, true, true] rfl rfl (by kernel_rfl) (by decide) (fun K hK => ?_)
    refine skip_ (w1 := ?_) (by rfl) rfl ?_ ?_
    rotate_left
    · (go_simp; rfl)
    have hset := KB.set w7 b0 260 (.slice A25 (r7 l).1.length c25)
    have hTB8 : TBlk (w7.setCell ⟨b0, 260, none⟩ (.slice A25 (r7 l).1.length c25)) b0 ⟨sec l 1, (r3 l).1, (r4 l).1, (r5 l).1, (r6 l).1, (r7 l).1, [], []⟩ ⟨A21, c21, A22, c22, A23, c23, A24, c24, A25, c25, none, 0, none, 0⟩ 29 := blk_put (cs' := (tcells ⟨sec l 1, (r3 l).1, (r4 l).1, (r5 l).1, (r6 l).1, (r7 l).1, [], []⟩ ⟨A21, c21, A22, c22, A23, c23, A24, c24, A25, c25, none, 0, none, 0⟩).toArray) hTB7 260 (.slice A25 (r7 l).1.length c25) (set5 (T := ⟨sec l 1, (r3 l).1, (r4 l).1, (r5 l).1, (r6 l).1, [], [], []⟩) (p := ⟨A21, c21, A22, c22, A23, c23, A24, c24, none, 0, none, 0, none, 0⟩) HX7.out _ _ _)
    have hrd8 := hrd7.keep hset.1 (tcells_nb hTB7) (fun j hj => (HGS.out j hj).2.2.1)
    have hpa8 := hset.1.blk hpa7 HGA.out (by simp)
    have hbd8 := hset.1.blk hbd7 HGD.out.2.1 (by simp)
    have hB8 := keep_below hB7 hset HZ0.out
    have hnn8 : NN ≤ (w7.setCell ⟨b0, 260, none⟩ (.slice A25 (r7 l).1.length c25)).heap.size := Nat.le_trans hnn7 hset.1.1
    have hlt8 : LT (w7.setCell ⟨b0, 260, none⟩ (.slice A25 (r7 l).1.length c25)) (fun k => NN ≤ k) ⟨sec l 1, (r3 l).1, (r4 l).1, (r5 l).1, (r6 l).1, (r7 l).1, [], []⟩ ⟨A21, c21, A22, c22, A23, c23, A24, c24, A25, c25, none, 0, none, 0⟩ := LT.keep (LT.s5 hlt7 hcF7 hF7) hset.1 HLO.out.2
    generalize w7.setCell ⟨b0, 260, none⟩ (.slice A25 (r7 l).1.length c25) = w8 at hTB8 hrd8 hpa8 hbd8 hB8 hnn8 hlt8 ⊢
    clear y0 y1 hTB7 hset hrd7 hpa7 hbd7 hB7 hnn7 hlt7 hcF7 hF7
    refine hK.out _ _ ⟨((blk_cell hbd8 3).trans (by rw [DL7, ← dI_nn]; rfl)), ((blk_cell hbd8 5).trans (by rw [DL7, ← dI_nn]; rfl)), ((blk_cell hpa8 7).trans rfl)⟩ (fun hHeld => ?_)
    clear hK K
    refine done_ (by kernel_rfl) ?_
    clear hHeld
    have hrd4 := hrd8
    have hpa4 := hpa8
    have hbd4 := hbd8
    have hTB4 := hTB8
    have hlt4 := hlt8
    have hB4 := hB8
    have hnn4 := hnn8
    clear hrd8 hpa8 hbd8 hTB8 hlt8 hB8 hnn8
    have d6 : w8.cell? ⟨gd, 6, none⟩ = some (.int .i64 ((dn l 6 : Nat) : Int)) := ((blk_cell hbd4 6).trans (by rw [DL7, ← dI_nn]; rfl))
    obtain ⟨NL, hNL⟩ : ∃ n, n = w8.heap.size := ⟨_, rfl⟩
    have HLOW := Aside0.mk (show LOW w ga b0 N NN NL gs from ⟨fun j hj => ⟨HLO.out.1 j hj, by have := HGS.out j hj; have := HNW.out; omega, (HGS.out j hj).2.2.1, (HGS.out j hj).2.1⟩, fun j hj => hrd4.ne j 7 (by omega) (by decide) (by omega), HLO.out.2, by have := (HLO.out.1 0 (by decide)); have := (hrd4.lo 0 (by decide)); have := HNa.out; omega, HGA.out, by rw [hNL]; exact hnn4, HZ0.out⟩)
    have HN6 := Aside0.mk (show dn l 6 ≤ 128 from by have := HDS.out; have := dI_nn l 6; omega)
    have HLS := Aside0.mk (show LS6 w w8 ga b0 N NN NL gs (upd (upd (upd (upd (upd (upd (upd (s0 l) 0 (rD l).2) 1 ([], false)) 2 (r3 l).2) 3 (r4 l).2) 4 (r5 l).2) 5 (r6 l).2) 6 (r7 l).2) ⟨sec l 1, (r3 l).1, (r4 l).1, (r5 l).1, (r6 l).1, (r7 l).1, [], []⟩ ⟨A21, c21, A22, c22, A23, c23, A24, c24, A25, c25, none, 0, none, 0⟩ ⟨sec l 1, (r3 l).1, (r4 l).1, (r5 l).1, (r6 l).1, (r7 l).1, [], []⟩ ⟨A21, c21, A22, c22, A23, c23, A24, c24, A25, c25, none, 0, none, 0⟩ from ⟨fun j hj => RW.of (hrd4.rd j (by omega)), hpa4, hTB4, hlt4.mono (fun k h1 h2 => ⟨h1, by rw [hNL]; exact h2⟩), hB4, Nat.le_of_eq hNL⟩)
    have hq0 := hrd4.rd 7 (by decide)
    have hq1 := hrd4.bi 7 (by decide)
    rw [show (upd (upd (upd (upd (upd (upd (upd (s0 l) 0 (rD l).2) 1 ([], false)) 2 (r3 l).2) 3 (r4 l).2) 4 (r5 l).2) 5 (r6 l).2) 6 (r7 l).2) 7 = (sec l 7, false) from by simp [upd, s0]] at hq0 hq1
    have HR7 := Aside0.mk hq0
    have HQ7 := Aside0.mk hq1
    clear hrd4 hpa4 hbd4 hTB4 hlt4 hB4 hnn4 hNL hq0 hq1
    go_wp2_with (fail)
    go_loopg [154] (dn l 6 + 1) (fun kq v154 w' => ∃ (i : Int) (xl xs : List Int) (A6 A7 : Option Addr) (e6 e7 : Nat), v154 = .int .i64 i ∧ Aside0 (0 ≤ i) ∧ Aside0 (i ≤ ((dn l 6 : Nat) : Int)) ∧ Aside0 ((kq : Int) + i = ((dn l 6 : Nat) : Int) + 1) ∧ Aside0 (xl = (manyR pairR i.toNat (sec l 7, false)).1.map (·.1) ∧ xs = (manyR pairR i.toNat (sec l 7, false)).1.map (·.2)) ∧ Aside0 (RBS w' (gs 7) (manyR pairR i.toNat (sec l 7, false)).2) ∧ Aside0 (LS6 w w' ga b0 N NN NL gs (upd (upd (upd (upd (upd (upd (upd (s0 l) 0 (rD l).2) 1 ([], false)) 2 (r3 l).2) 3 (r4 l).2) 4 (r5 l).2) 5 (r6 l).2) 6 (r7 l).2) ⟨sec l 1, (r3 l).1, (r4 l).1, (r5 l).1, (r6 l).1, (r7 l).1, [], []⟩ ⟨A21, c21, A22, c22, A23, c23, A24, c24, A25, c25, none, 0, none, 0⟩ ⟨sec l 1, (r3 l).1, (r4 l).1, (r5 l).1, (r6 l).1, (r7 l).1, xl, xs⟩ ⟨A21, c21, A22, c22, A23, c23, A24, c24, A25, c25, A6, e6, A7, e7⟩)
      ∧ Aside0 (Kd.R (Kd.int .i64) 3 w' NL (fun k => some k ≠ (Value.slice A7 xs.length e7).ownBlock) (.slice A6 xl.length e6) xl) ∧ Aside0 (Kd.R (Kd.int .i64) 3 w' NL (fun k => some k ≠ (Value.slice A6 xl.length e6).ownBlock) (.slice A7 xs.length e7) xs))
    case atStart => exact ⟨0, [], [], none, none, 0, 0, rfl, ⟨by decide⟩, ⟨by omega⟩, ⟨by omega⟩, ⟨⟨rfl, rfl⟩⟩, HR7, HLS, ⟨Kd.R_nil _ _ _ _ _⟩, ⟨Kd.R_nil _ _ _ _ _⟩⟩
    clear HR7 HLS d6
    obtain ⟨i, xl, xs, A6, A7, e6, e7, rfl, hi0, hi1, hk, hxx, hr7, hLS, hR6, hR7⟩ := hrel
    have hkk := hk.out
    by_cases hlt : i < ((dn l 6 : Nat) : Int)
    · have l9 : decide (i < ((dn l 6 : Nat) : Int)) = true := decide_eq_true hlt
      have hwi : IntKind.i64.wrap (i + 1) = i + 1 := by have := hi0.out; have := HN6.out; simp only [i64_w]; unfold wrap64; omega
      have HLT := Aside0.mk hlt
      have HSN := Aside0.mk (pair_snoc i.toNat (sec l 7, false))
      have HFI := Aside0.mk (fine_many fine_pair i.toNat (sec l 7, false) HQ7.out.1)
      have HXL := Aside0.mk (show xl.length = i.toNat ∧ xs.length = i.toNat from ⟨by rw [hxx.out.1, List.length_map, manyR_length], by rw [hxx.out.2, List.length_map, manyR_length]⟩)
      generalize (manyR pairR i.toNat (sec l 7, false)).2 = sp at hr7 HSN HFI
      have hB0 := Aside0.mk (show sp.1.length < 225179981368000 from Nat.lt_of_le_of_lt HFI.out.2 HQ7.out.2)
      have HB1 := Aside0.mk (numR_BI sp HFI.out.1)
      have hlen6 : xl.length + 1 = (xl ++ [(numR sp).1]).length := by rw [List.length_append, List.length_singleton]
      have hlen7 : xs.length + 1 = (xs ++ [(numR (numR sp).2).1]).length := by rw [List.length_append, List.length_singleton]
      have HLEN := Aside0.mk (And.intro hlen6 hlen7)
      clear hlt hlen6 hlen7
      go_upto_region 28 with (fail)
      refine start_ (n := 20) (S := fun w' => w'.cell? ⟨b0, 261, none⟩ = some (.slice A6 xl.length e6) ∧ w'.cell? ⟨b0, 262, none⟩ = some (.slice A7 xs.length e7) ∧ w'.cell? ⟨ga, 8, none⟩ = some (.pointer (some ⟨gs 7, 0, none⟩))) (ds := [17, 19]) #[false, false, false, false, false, false, false, false, false, false, false, false, false, false, false, false, false, false, false, false] (by kernel_rfl) rfl rfl ⟨((TBlk.tail hLS.out.tb HX7.out 3).trans rfl), ((TBlk.tail hLS.out.tb HX7.out 4).trans rfl), ((blk_cell hLS.out.pa 8).trans rfl)⟩ (fun hHeld => ?_)
      generalize HW : wr.drew = w5 at hHeld ⊢
      have ls5 : LS6 w w5 ga b0 N NN NL gs (upd (upd (upd (upd (upd (upd (upd (s0 l) 0 (rD l).2) 1 ([], false)) 2 (r3 l).2) 3 (r4 l).2) 4 (r5 l).2) 5 (r6 l).2) 6 (r7 l).2) ⟨sec l 1, (r3 l).1, (r4 l).1, (r5 l).1, (r6 l).1, (r7 l).1, [], []⟩ ⟨A21, c21, A22, c22, A23, c23, A24, c24, A25, c25, none, 0, none, 0⟩ ⟨sec l 1, (r3 l).1, (r4 l).1, (r5 l).1, (r6 l).1, (r7 l).1, xl, xs⟩ ⟨A21, c21, A22, c22, A23, c23, A24, c24, A25, c25, A6, e6, A7, e7⟩ := by rw [← HW]; exact hLS.out.move HLOW.out (fun k _ _ => rfl) (below_drew hLS.out.be) hLS.out.nl
      have hr5 : RBS w5 (gs 7) sp := by rw [← HW]; exact RB.below hr7.out (below_drew (Below.refl _ _))
      have hR65 : Kd.R (Kd.int .i64) 3 w5 NL (fun k => some k ≠ (Value.slice A7 xs.length e7).ownBlock) (.slice A6 xl.length e6) xl := by rw [← HW]; exact Kd.R_drew hR6.out
      have hR75 : Kd.R (Kd.int .i64) 3 w5 NL (fun k => some k ≠ (Value.slice A6 xl.length e6).ownBlock) (.slice A7 xs.length e7) xs := by rw [← HW]; exact Kd.R_drew hR7.out
      clear HW hLS hr7 hR6 hR7
      have h7n : gs 7 < NL := by have := (HLOW.out.g 7 (by decide)).1; have := HLOW.out.l; omega
      refine pure_ (i := 0) (N := some 156) (v := ?_) (a' := ?_) #[true, false, false, false, false, false, false, false, false, false, false, false, false, false, false, false, false, false, false, false] rfl rfl (by kernel_rfl) (fun _ _ _ h => h) (Or.inl ⟨by rfl, ?_⟩) ?_ ?_
      rotate_left
      · intro w'
        go_simp
        with_reducible rfl
      rotate_left
      · simp only [Act.put, List.setIfInBounds_toArray, List.set_cons_zero, List.set_cons_succ, i64_w, i32_w]
        rfl
      refine pure_ (i := 2) (N := some 158) (v := ?_) (a' := ?_) #[true, false, true, false, false, false, false, false, false, false, false, false, false, false, false, false, false, false, false, false] rfl rfl (by kernel_rfl) (fun _ _ _ h => h) (Or.inl ⟨by rfl, ?_⟩) ?_ ?_
      rotate_left
      · intro w'
        go_simp
        with_reducible rfl
      rotate_left
      · simp only [Act.put, List.setIfInBounds_toArray, List.set_cons_zero, List.set_cons_succ, i64_w, i32_w]
        rfl
      refine pure_ (i := 3) (N := some 159) (v := ?_) (a' := ?_) #[true, false, true, true, false, false, false, false, false, false, false, false, false, false, false, false, false, false, false, false] rfl rfl (by kernel_rfl) (fun _ _ _ h => h) (Or.inl ⟨by rfl, ?_⟩) ?_ ?_
      rotate_left
      · intro w'
        go_simp
        with_reducible rfl
      rotate_left
      · simp only [Act.put, List.setIfInBounds_toArray, List.set_cons_zero, List.set_cons_succ, i64_w, i32_w]
        rfl
      refine pure_ (i := 8) (N := some 164) (v := ?_) (a' := ?_) #[true, false, true, true, false, false, false, false, true, false, false, false, false, false, false, false, false, false, false, false] rfl rfl (by kernel_rfl) (fun _ _ _ h => h) (Or.inl ⟨by rfl, ?_⟩) ?_ ?_
      rotate_left
      · intro w'
        go_simp
        with_reducible rfl
      rotate_left
      · simp only [Act.put, List.setIfInBounds_toArray, List.set_cons_zero, List.set_cons_succ, i64_w, i32_w]
        rfl
      refine pure_ (i := 10) (N := some 166) (v := ?_) (a' := ?_) #[true, false, true, true, false, false, false, false, true, false, true, false, false, false, false, false, false, false, false, false] rfl rfl (by kernel_rfl) (fun _ _ _ h => h) (Or.inl ⟨by rfl, ?_⟩) ?_ ?_
      rotate_left
      · intro w'
        go_simp
        with_reducible rfl
      rotate_left
      · simp only [Act.put, List.setIfInBounds_toArray, List.set_cons_zero, List.set_cons_succ, i64_w, i32_w]
        rfl
      refine pure_ (i := 11) (N := some 167) (v := ?_) (a' := ?_) #[true, false, true, true, false, false, false, false, true, false, true, true, false, false, false, false, false, false, false, false] rfl rfl (by kernel_rfl) (fun _ _ _ h => h) (Or.inl ⟨by rfl, ?_⟩) ?_ ?_
      rotate_left
      · intro w'
        go_simp
        with_reducible rfl
      rotate_left
      · simp only [Act.put, List.setIfInBounds_toArray, List.set_cons_zero, List.set_cons_succ, i64_w, i32_w]
        rfl
      refine take_ (i := 1) (N := some 157) (v := ?_) (a' := ?_) #[true, true, true, true, false, false, false, false, true, false, true, true, false, false, false, false, false, false, false, false] rfl rfl (by kernel_rfl) (fun _ _ _ h => h) (Or.inl ⟨by rfl, ?_⟩) hHeld ?_ ?_
      rotate_left
      · rintro w' ⟨s0, s1, s2⟩
        go_simp
        with_reducible rfl
      rotate_left
      · simp only [Act.put, List.setIfInBounds_toArray, List.set_cons_zero, List.set_cons_succ, i64_w, i32_w]
        rfl
      refine take_ (i := 4) (N := some 160) (v := ?_) (a' := ?_) #[true, true, true, true, true, false, false, false, true, false, true, true, false, false, false, false, false, false, false, false] rfl rfl (by kernel_rfl) (fun _ _ _ h => h) (Or.inl ⟨by rfl, ?_⟩) hHeld ?_ ?_
      rotate_left
      · rintro w' ⟨s0, s1, s2⟩
        go_simp
        with_reducible rfl
      rotate_left
      · simp only [Act.put, List.setIfInBounds_toArray, List.set_cons_zero, List.set_cons_succ, i64_w, i32_w]
        rfl
      refine take_ (i := 9) (N := some 165) (v := ?_) (a' := ?_) #[true, true, true, true, true, false, false, false, true, true, true, true, false, false, false, false, false, false, false, false] rfl rfl (by kernel_rfl) (fun _ _ _ h => h) (Or.inl ⟨by rfl, ?_⟩) hHeld ?_ ?_
      rotate_left
      · rintro w' ⟨s0, s1, s2⟩
        go_simp
        with_reducible rfl
      rotate_left
      · simp only [Act.put, List.setIfInBounds_toArray, List.set_cons_zero, List.set_cons_succ, i64_w, i32_w]
        rfl
      refine take_ (i := 12) (N := some 168) (v := ?_) (a' := ?_) #[true, true, true, true, true, false, false, false, true, true, true, true, true, false, false, false, false, false, false, false] rfl rfl (by kernel_rfl) (fun _ _ _ h => h) (Or.inl ⟨by rfl, ?_⟩) hHeld ?_ ?_
      rotate_left
      · rintro w' ⟨s0, s1, s2⟩
        go_simp
        with_reducible rfl
      rotate_left
      · simp only [Act.put, List.setIfInBounds_toArray, List.set_cons_zero, List.set_cons_succ, i64_w, i32_w]
        rfl
      refine one_ (i := 5) (N := some 161) #[true, true, true, true, true, true, false, false, true, true, true, true, true, false, false, false, false, false, false, false] rfl rfl (by kernel_rfl) (by decide) (fun K hK => ?_)
      refine goes_ Try.func59 (by kernel_rfl) rfl #[.pointer (some ⟨gs 7, 0, none⟩)] (by rfl) rfl rfl (by simp only [List.map_toArray, List.map_cons, List.map_nil]; rfl) ?_
      with_reducible refine (num_n (gs 7) sp w5 hr5 HFI.out.1 hB0.out).mono ?_
      rintro e w7 ⟨rfl, hr7, hk7⟩
      refine ⟨_, rfl, ?_⟩
      have ls7 := ls5.kb HLOW.out hk7
      have hR67 := R_keepB hR65 hk7.1 h7n
      have hR77 := R_keepB hR75 hk7.1 h7n
      have h57 := hk7.1.1
      have ow6 := R_ownb hR65
      have ow7 := R_ownb hR75
      clear ls5 hr5 hR65 hR75 hk7
      refine hK.out _ _ ⟨((TBlk.tail ls7.tb HX7.out 3).trans rfl), ((TBlk.tail ls7.tb HX7.out 4).trans rfl), ((blk_cell ls7.pa 8).trans rfl)⟩ (fun hHeld => ?_)
      clear hK K
      refine norm_ (a' := ?_) ?_ ?_
      rotate_left
      · show Act.put _ (some 161) _ = _
        simp only [Act.put, List.setIfInBounds_toArray, List.set_cons_zero, List.set_cons_succ, i64_w, i32_w]
        rfl
      refine one_ (i := 6) (N := some 162) #[true, true, true, true, true, true, true, false, true, true, true, true, true, false, false, false, false, false, false, false] rfl rfl (by kernel_rfl) (by decide) (fun K hK => ?_)
      refine value_ (w1 := w7.alloc (.cells #[.int .i64 (numR sp).1] 3 (0, 0))) (v := .slice (some ⟨w7.heap.size, 0, none⟩) 1 1) (by rfl) rfl ?_ ?_
      · (first | (go_simp; done) | (go_simp; rfl))
      refine hK.out _ _ ⟨((TBlk.tail (blk_alloc ls7.tb _) HX7.out 3).trans rfl), ((TBlk.tail (blk_alloc ls7.tb _) HX7.out 4).trans rfl), ((blk_cell (blk_alloc ls7.pa _) 8).trans rfl)⟩ (fun hHeld => ?_)
      clear hK K
      refine norm_ (a' := ?_) ?_ ?_
      rotate_left
      · show Act.put _ (some 162) _ = _
        simp only [Act.put, List.setIfInBounds_toArray, List.set_cons_zero, List.set_cons_succ, i64_w, i32_w]
        rfl
      refine one_ (i := 7) (N := some 163) #[true, true, true, true, true, true, true, true, true, true, true, true, true, false, false, false, false, false, false, false] rfl rfl (by kernel_rfl) (by decide) (fun K hK => ?_)
      refine Kd.R_append_step (Kd.int .i64) (w0 := w7) NL (by rfl) (.tmp 157) (.tmp 162) 24 3 (.int .i64 0) 8 rfl Try.underlying24 info3 rfl (by decide) (by omega) (.slice A6 xl.length e6) xl (numR sp).1 [.int .i64 (numR sp).1] (fun k => some k ≠ (Value.slice A7 xs.length e7).ownBlock) (fun _ => False) rfl rfl rfl (fun k h => h.elim) (fun k hk he => by have := (R_ownb hR77 k he.symm).2; omega) hR67 (Below.refl _ _) ls7.nl (by rw [HXL.out.1]; have := HN6.out; have := HLT.out; omega) ?_
      intro v8 w8 hR68 hB8 hg8 hat8
      have hR78 := Kd.R_mono (Kd.R_after (ok := fun _ => True) (Kd.R_mono hR77 (fun k hk => ⟨trivial, hk⟩)) hg8 hat8) (fun k hk => hk.2)
      obtain ⟨A68, e68, ee⟩ := Kd.R_slice hR68
      rw [← HLEN.out.1] at ee
      subst ee
      have ls8 := ls7.grown HLOW.out hg8 hB8 (fun k hk => (ow6 k hk).1)
      have hr8 := hr7.grown hg8 (fun k hk => ⟨by have := (ow6 k hk).1; omega, by have := (ow6 k hk).2; omega⟩)
      clear ls7 hr7 hR67 hR77 hB8 hg8 hat8 h57 ow6 ow7
      refine hK.out _ _ ⟨((TBlk.tail ls8.tb HX7.out 3).trans rfl), ((TBlk.tail ls8.tb HX7.out 4).trans rfl), ((blk_cell ls8.pa 8).trans rfl)⟩ (fun hHeld => ?_)
      clear hK K
      refine norm_ (a' := ?_) ?_ ?_
      rotate_left
      · show Act.put _ (some 163) _ = _
        simp only [Act.put, List.setIfInBounds_toArray, List.set_cons_zero, List.set_cons_succ, i64_w, i32_w]
        rfl
      refine pure_ (i := 16) (N := some 172) (v := ?_) (a' := ?_) #[true, true, true, true, true, true, true, true, true, true, true, true, true, false, false, false, true, false, false, false] rfl rfl (by kernel_rfl) (fun _ _ _ h => h) (Or.inl ⟨by rfl, ?_⟩) ?_ ?_
      rotate_left
      · intro w'
        go_simp
        with_reducible rfl
      rotate_left
      · simp only [Act.put, List.setIfInBounds_toArray, List.set_cons_zero, List.set_cons_succ, i64_w, i32_w]
        rfl
      refine one_ (i := 13) (N := some 169) #[true, true, true, true, true, true, true, true, true, true, true, true, true, true, false, false, true, false, false, false] rfl rfl (by kernel_rfl) (by decide) (fun K hK => ?_)
      refine goes_ Try.func59 (by kernel_rfl) rfl #[.pointer (some ⟨gs 7, 0, none⟩)] (by rfl) rfl rfl (by simp only [List.map_toArray, List.map_cons, List.map_nil]; rfl) ?_
      with_reducible refine (num_n (gs 7) (numR sp).2 w8 hr8.rb HB1.out.1 (by have := HB1.out.2; have := hB0.out; omega)).mono ?_
      rintro e w9 ⟨rfl, hr9, hk9⟩
      refine ⟨_, rfl, ?_⟩
      have ls9 := ls8.kb HLOW.out hk9
      have h8n := ls8.nl
      have hR69 := R_keepB hR68 hk9.1 h7n
      have hR79 := R_keepB hR78 hk9.1 h7n
      have ow6 := R_ownb hR68
      have ow7 := R_ownb hR78
      clear ls8 hr8 hR68 hR78 hk9
      refine hK.out _ _ ⟨((TBlk.tail ls9.tb HX7.out 3).trans rfl), ((TBlk.tail ls9.tb HX7.out 4).trans rfl), ((blk_cell ls9.pa 8).trans rfl)⟩ (fun hHeld => ?_)
      clear hK K
      refine norm_ (a' := ?_) ?_ ?_
      rotate_left
      · show Act.put _ (some 169) _ = _
        simp only [Act.put, List.setIfInBounds_toArray, List.set_cons_zero, List.set_cons_succ, i64_w, i32_w]
        rfl
      refine one_ (i := 14) (N := some 170) #[true, true, true, true, true, true, true, true, true, true, true, true, true, true, true, false, true, false, false, false] rfl rfl (by kernel_rfl) (by decide) (fun K hK => ?_)
      refine value_ (w1 := w9.alloc (.cells #[.int .i64 (numR (numR sp).2).1] 3 (0, 0))) (v := .slice (some ⟨w9.heap.size, 0, none⟩) 1 1) (by rfl) rfl ?_ ?_
      · (first | (go_simp; done) | (go_simp; rfl))
      refine hK.out _ _ ⟨((TBlk.tail (blk_alloc ls9.tb _) HX7.out 3).trans rfl), ((TBlk.tail (blk_alloc ls9.tb _) HX7.out 4).trans rfl), ((blk_cell (blk_alloc ls9.pa _) 8).trans rfl)⟩ (fun hHeld => ?_)
      clear hK K
      refine norm_ (a' := ?_) ?_ ?_
      rotate_left
      · show Act.put _ (some 170) _ = _
        simp only [Act.put, List.setIfInBounds_toArray, List.set_cons_zero, List.set_cons_succ, i64_w, i32_w]
        rfl
      refine one_ (i := 15) (N := some 171) #[true, true, true, true, true, true, true, true, true, true, true, true, true, true, true, true, true, false, false, false] rfl rfl (by kernel_rfl) (by decide) (fun K hK => ?_)
      refine Kd.R_append_step (Kd.int .i64) (w0 := w9) NL (by rfl) (.tmp 165) (.tmp 170) 24 3 (.int .i64 0) 8 rfl Try.underlying24 info3 rfl (by decide) (by omega) (.slice A7 xs.length e7) xs (numR (numR sp).2).1 [.int .i64 (numR (numR sp).2).1] (fun k => some k ≠ (Value.slice A68 (xl.length + 1) e68).ownBlock) (fun _ => False) rfl rfl rfl (fun k h => h.elim) (fun k hk he => by have := (R_ownb hR69 k he.symm).2; omega) hR79 (Below.refl _ _) ls9.nl (by rw [HXL.out.2]; have := HN6.out; have := HLT.out; omega) ?_
      intro v10 w10 hR710 hB10 hg10 hat10
      have hR610 := Kd.R_mono (Kd.R_after (ok := fun _ => True) (Kd.R_mono hR69 (fun k hk => ⟨trivial, hk⟩)) hg10 hat10) (fun k hk => hk.2)
      obtain ⟨A710, e710, ee⟩ := Kd.R_slice hR710
      rw [← HLEN.out.2] at ee
      subst ee
      have ls10 := ls9.grown HLOW.out hg10 hB10 (fun k hk => (ow7 k hk).1)
      have hr10 := hr9.grown hg10 (fun k hk => ⟨by have := (ow7 k hk).1; omega, by have := (ow7 k hk).2; omega⟩)
      have y0 := (TBlk.tail ls10.tb HX7.out 3).trans (show _ = some (Value.slice A6 xl.length e6) from rfl)
      have y1 := blk_frozen ls10.tb 261
      have h8b : b0 < w8.heap.size := by have := HLOW.out.b; have := HLOW.out.l; omega
      clear ls9 hr9 hR69 hR79 hB10 hg10 hat10 ow6 ow7
      refine hK.out _ _ ⟨((TBlk.tail ls10.tb HX7.out 3).trans rfl), ((TBlk.tail ls10.tb HX7.out 4).trans rfl), ((blk_cell ls10.pa 8).trans rfl)⟩ (fun hHeld => ?_)
      clear hK K
      refine norm_ (a' := ?_) ?_ ?_
      rotate_left
      · show Act.put _ (some 171) _ = _
        simp only [Act.put, List.setIfInBounds_toArray, List.set_cons_zero, List.set_cons_succ, i64_w, i32_w]
        rfl
      refine last_ (i := 17) (N := none) #[true, true, true, true, true, true, true, true, true, true, true, true, true, true, true, true, true, true, false, false] rfl rfl (by kernel_rfl) (by decide) (fun K hK => ?_)
      refine skip_ (w1 := ?_) (by rfl) rfl ?_ ?_
      rotate_left
      · (go_simp; rfl)
      have ls11 : LS6 w (w10.setCell ⟨b0, 261, none⟩ (.slice A68 (xl.length + 1) e68)) ga b0 N NN NL gs (upd (upd (upd (upd (upd (upd (upd (s0 l) 0 (rD l).2) 1 ([], false)) 2 (r3 l).2) 3 (r4 l).2) 4 (r5 l).2) 5 (r6 l).2) 6 (r7 l).2) ⟨sec l 1, (r3 l).1, (r4 l).1, (r5 l).1, (r6 l).1, (r7 l).1, [], []⟩ ⟨A21, c21, A22, c22, A23, c23, A24, c24, A25, c25, none, 0, none, 0⟩ ⟨sec l 1, (r3 l).1, (r4 l).1, (r5 l).1, (r6 l).1, (r7 l).1, (xl ++ [(numR sp).1]), xs⟩ ⟨A21, c21, A22, c22, A23, c23, A24, c24, A25, c25, A68, e68, A7, e7⟩ := ls10.set HLOW.out 261 (.slice A68 (xl.length + 1) e68) (by rw [HLEN.out.1]; exact set6 (T := ⟨sec l 1, (r3 l).1, (r4 l).1, (r5 l).1, (r6 l).1, (r7 l).1, xl, xs⟩) (p := ⟨A21, c21, A22, c22, A23, c23, A24, c24, A25, c25, A6, e6, A7, e7⟩) HX7.out _ _ _)
      have hr11 := hr10.far (HLOW.out.g 7 (by decide)).2.2.1.symm h8b 261 (.slice A68 (xl.length + 1) e68)
      have hR611 := Kd.R_far (p := ⟨b0, 261, none⟩) (Kd.R_bound hR610) (fun k hk => by have := hk.2.1; have := HLOW.out.b; have := HLOW.out.l; show k ≠ b0; omega) (.slice A68 (xl.length + 1) e68)
      have hR711 := Kd.R_far (p := ⟨b0, 261, none⟩) (Kd.R_bound hR710) (fun k hk => by have := hk.2.1; have := HLOW.out.b; have := HLOW.out.l; show k ≠ b0; omega) (.slice A68 (xl.length + 1) e68)
      generalize w10.setCell ⟨b0, 261, none⟩ (.slice A68 (xl.length + 1) e68) = w11 at ls11 hr11 hR611 hR711 ⊢
      have y0 := (TBlk.tail ls11.tb HX7.out 4).trans (show _ = some (Value.slice A7 xs.length e7) from rfl)
      have y1 := blk_frozen ls11.tb 262
      clear ls10 hr10 hR610 hR710
      refine hK.out _ _ ?_
      clear hK K
      refine pure_ (i := 18) (N := some 173) (v := ?_) (a' := ?_) #[true, true, true, true, true, true, true, true, true, true, true, true, true, true, true, true, true, true, true, false] rfl rfl (by kernel_rfl) (fun _ _ _ h => h) (Or.inl ⟨by rfl, ?_⟩) ?_ ?_
      rotate_left
      · intro w'
        go_simp
        with_reducible rfl
      rotate_left
      · simp only [Act.put, List.setIfInBounds_toArray, List.set_cons_zero, List.set_cons_succ, i64_w, i32_w]
        rfl
      refine last_ (i := 19) (N := none) #[true, true, true, true, true, true, true, true, true, true, true, true, true, true, true, true, true, true, true, true] rfl rfl (by kernel_rfl) (by decide) (fun K hK => ?_)
      refine skip_ (w1 := ?_) (by rfl) rfl ?_ ?_
      rotate_left
      · (go_simp; rfl)
      have ls12 : LS6 w (w11.setCell ⟨b0, 262, none⟩ (.slice A710 (xs.length + 1) e710)) ga b0 N NN NL gs (upd (upd (upd (upd (upd (upd (upd (s0 l) 0 (rD l).2) 1 ([], false)) 2 (r3 l).2) 3 (r4 l).2) 4 (r5 l).2) 5 (r6 l).2) 6 (r7 l).2) ⟨sec l 1, (r3 l).1, (r4 l).1, (r5 l).1, (r6 l).1, (r7 l).1, [], []⟩ ⟨A21, c21, A22, c22, A23, c23, A24, c24, A25, c25, none, 0, none, 0⟩ ⟨sec l 1, (r3 l).1, (r4 l).1, (r5 l).1, (r6 l).1, (r7 l).1, (xl ++ [(numR sp).1]), (xs ++ [(numR (numR sp).2).1])⟩ ⟨A21, c21, A22, c22, A23, c23, A24, c24, A25, c25, A68, e68, A710, e710⟩ := ls11.set HLOW.out 262 (.slice A710 (xs.length + 1) e710) (by rw [HLEN.out.2]; exact set7 (T := ⟨sec l 1, (r3 l).1, (r4 l).1, (r5 l).1, (r6 l).1, (r7 l).1, (xl ++ [(numR sp).1]), xs⟩) (p := ⟨A21, c21, A22, c22, A23, c23, A24, c24, A25, c25, A68, e68, A7, e7⟩) HX7.out _ _ _)
      have hr12 := (hr11.far (HLOW.out.g 7 (by decide)).2.2.1.symm h8b 262 (.slice A710 (xs.length + 1) e710)).rb
      have hR612 := Kd.R_mono (Kd.R_far (p := ⟨b0, 262, none⟩) (Kd.R_bound hR611) (fun k hk => by have := hk.2.1; have := HLOW.out.b; have := HLOW.out.l; show k ≠ b0; omega) (.slice A710 (xs.length + 1) e710)) (fun k hk => hk.1.1)
      have hR712 := Kd.R_mono (Kd.R_far (p := ⟨b0, 262, none⟩) (Kd.R_bound hR711) (fun k hk => by have := hk.2.1; have := HLOW.out.b; have := HLOW.out.l; show k ≠ b0; omega) (.slice A710 (xs.length + 1) e710)) (fun k hk => hk.1.1)
      generalize w11.setCell ⟨b0, 262, none⟩ (.slice A710 (xs.length + 1) e710) = w12 at ls12 hr12 hR612 hR712 ⊢
      rw [HLEN.out.1, HLEN.out.2] at hR612 hR712
      clear ls11 hr11 hR611 hR711 y0 y1
      refine hK.out _ _ ?_
      clear hK K
      refine done_ (by kernel_rfl) ?_
      try clear hHeld
      go_wp2_with (fail)
      have hj : i.toNat + 1 = (i + 1).toNat := by have := hi0.out; omega
      go_roundg (gk - 1)
      case measure => have := HLT.out; have := hi0.out; omega
      case rel => exact ⟨i + 1, xl ++ [(numR sp).1], xs ++ [(numR (numR sp).2).1], A68, A710, e68, e710, rfl, ⟨by have := hi0.out; omega⟩, ⟨by have := HLT.out; omega⟩, ⟨by have := HLT.out; omega⟩, ⟨by rw [← hj, HSN.out.1, HSN.out.2.1, hxx.out.1, hxx.out.2]; exact ⟨rfl, rfl⟩⟩, ⟨by rw [← hj, HSN.out.2.2]; exact hr12⟩, ⟨ls12⟩, ⟨hR612⟩, ⟨hR712⟩⟩
    have l1 : decide (i < ((dn l 6 : Nat) : Int)) = false := decide_eq_false hlt
    have HI := Aside0.mk (show i.toNat = dn l 6 from by have := hi0.out; have := hi1.out; omega)
    have HXX := Aside0.mk (show xl = (r8 l).1.map (·.1) ∧ xs = (r8 l).1.map (·.2) from by have h := hxx.out; rw [HI.out] at h; exact h)
    have HR7 := Aside0.mk (show RBS wr (gs 7) (r8 l).2 from by have h := hr7.out; rw [HI.out] at h; exact h)
    have hL6 := RF_ hR6.out HLOW.out.l
    have hL7 := RF_ hR7.out HLOW.out.l
    have HTAB := Aside0.mk (show TBlk wr b0 (tabI l) ⟨A21, c21, A22, c22, A23, c23, A24, c24, A25, c25, A6, e6, A7, e7⟩ 29 ∧ LT wr (fun k => NN ≤ k) (tabI l) ⟨A21, c21, A22, c22, A23, c23, A24, c24, A25, c25, A6, e6, A7, e7⟩ from by
      have h1 := HXX.out.1
      have h2 := HXX.out.2
      subst h1
      subst h2
      exact ⟨hLS.out.tb, ((((hLS.out.lt).mono (ok' := fun k => NN ≤ k) (fun k hk _ => hk.1)).s6 hL6.2.1 hL6.2.2).s7 hL7.2.1 hL7.2.2)⟩)
    have HST := Aside0.mk (show ∀ j, j < 8 → RW wr (gs j) (st8 l j) from fun j hj => by
      by_cases e : j = 7
      · subst e; rw [show st8 l 7 = (r8 l).2 from by simp [st8, upd]]; exact RW.of HR7.out
      rw [show st8 l j = (upd (upd (upd (upd (upd (upd (upd (s0 l) 0 (rD l).2) 1 ([], false)) 2 (r3 l).2) 3 (r4 l).2) 4 (r5 l).2) 5 (r6 l).2) 6 (r7 l).2) j from if_neg e]; exact hLS.out.rw_ j (by omega))
    have HPA := Aside0.mk hLS.out.pa
    have hB := Aside0.mk hLS.out.be
    clear hkk hk hi0 hi1 hlt hxx hr7 hLS hR6 hR7 HXX HR7 hL6 hL7 HI
    generalize (⟨A21, c21, A22, c22, A23, c23, A24, c24, A25, c25, A6, e6, A7, e7⟩ : TL) = pp at HTAB
    go_wp2_with (fail)
    go_loopg [178] 9 (fun kq v178 w' => ∃ (i : Int), v178 = .int .i64 i ∧ Aside0 (0 ≤ i) ∧ Aside0 (i ≤ 8) ∧ Aside0 ((kq : Int) + i = 9) ∧ Aside0 (∀ j : Nat, (j : Int) < i → doneB (st8 l j) = true) ∧ w' = wr)
    case atStart => exact ⟨0, rfl, ⟨by decide⟩, ⟨by decide⟩, ⟨by decide⟩, ⟨fun j hj => by omega⟩, rfl⟩
    obtain ⟨i, rfl, hi0, hi1, hk, hdn, hww⟩ := hrel
    subst hww
    have hkk := hk.out
    by_cases hlt : i < 8
    · have l8 : decide (i < 8) = true := decide_eq_true hlt
      have hwi : IntKind.i64.wrap (i + 1) = i + 1 := by have := hi0.out; simp only [i64_w]; unfold wrap64; omega
      have p1 := eq_true hi0.out
      have q1 := eq_true hlt
      have q1n : (i < ((8 : Nat) : Int)) = True := eq_true hlt
      have HLT := Aside0.mk hlt
      have kp := (blk_cell HPA.out (1 + i.toNat)).trans ((List.getElem?_toArray).trans (PL_at gs i.toNat (by have := hi0.out; omega)))
      have HRW := Aside0.mk (HST.out i.toNat (by have := hi0.out; omega))
      clear hlt
      by_cases hd : doneB (st8 l i.toNat) = true
      · have HD := Aside0.mk hd
        clear hd
        go_wp2_with (first | (go_at_call 65; refine (done_calls (gs i.toNat) (st8 l i.toNat) _ HRW.out).mono ?_; rintro e w7 ⟨he, rfl⟩; rw [HD.out] at he; subst he))
        go_roundg (gk - 1)
        case measure => have := HLT.out; have := hi0.out; omega
        case rel => exact ⟨i + 1, rfl, ⟨by have := hi0.out; omega⟩, ⟨by have := HLT.out; omega⟩, ⟨by have := HLT.out; omega⟩, ⟨fun j hj => by
          by_cases e : j = i.toNat
          · rw [e]; exact HD.out
          exact hdn.out j (by have := hi0.out; omega)⟩, rfl⟩
      have HD := Aside0.mk (show doneB (st8 l i.toNat) = false from by simpa using hd)
      clear hd
      go_upto_region 34 with (first | (go_at_call 65; refine (done_calls (gs i.toNat) (st8 l i.toNat) _ HRW.out).mono ?_; rintro e w7 ⟨he, rfl⟩; rw [HD.out] at he; subst he))
      have HRB := Aside0.mk (show readB l = false from readB_not i.toNat (by have := hi0.out; have := HLT.out; omega) HD.out)
      go_wp2_with (first | (refine wpList_store_row rfl 29 (.tmp 2) (.tmp 185) rfl b0 Try.zeroCells29 rfl rfl 29 (tcells (tabI l) pp).toArray HTAB.out.1 (by rw [zc29]; exact sizeT T0_cls) ((tsz HX7.out).trans zcs.symm) (by rw [zc29]; exact tcells_one _ _) ?_; rw [zc29]; obtain ⟨hT9, hb9⟩ := row_set HTAB.out.1 hB.out HZ0.out (tcells T0 P0).toArray; generalize wr.setRow b0 (tcells T0 P0).toArray = w9 at hT9 hb9 ⊢))
      refine bodyPost_ret (results_ct rfl _ _ b0 29 (tcells T0 P0).toArray (0, 0) _ rfl hT9 Try.underlying29 rfl (sizeT T0_cls)) rfl ?_
      exact ⟨T0, P0, by rw [HRB.out]; first | done | rfl, T0_cls, (fun h => absurd (HRB.out.symm.trans h) (by decide)), hb9⟩
    have l8 : decide (i < 8) = false := decide_eq_false hlt
    have HRB := Aside0.mk (show readB l = mayB (tabI l) from by
      unfold readB
      rw [dOk_of HDS.out HX7.out, (doneA_iff l).2 (fun j hj => hdn.out j (by have := hi1.out; omega))]
      rfl)
    have HD0 := Aside0.mk (show dn l 0 ≤ 512 ∧ dn l 2 ≤ 64 from by have := HDS.out; have := dI_nn l 0; have := dI_nn l 2; omega)
    clear hkk hk hi0 hi1 hlt hdn
    go_upto_region 36 with (fail)
    refine start_ (n := 5) (S := fun w' => w'.heap[b0]? = some (.cells (tcells (tabI l) pp).toArray 29 (0, 0))) (ds := []) #[false, false, false, false, false] (by kernel_rfl) rfl rfl (HTAB.out.1) (fun hHeld => ?_)
    generalize HW : wr.drew = w5 at hHeld ⊢
    have tb5 : TBlk w5 b0 (tabI l) pp 29 := by rw [← HW]; exact HTAB.out.1
    have lt5 : LT w5 (fun k => NN ≤ k) (tabI l) pp := by rw [← HW]; exact HTAB.out.2.step (fun k _ _ => rfl)
    have be5 : Below w.heap.size w w5 := by rw [← HW]; exact below_drew hB.out
    clear HW
    refine take_ (i := 0) (N := some 187) (v := ?_) (a' := ?_) #[true, false, false, false, false] rfl rfl (by kernel_rfl) (fun _ _ _ h => h) (Or.inl ⟨by rfl, ?_⟩) hHeld ?_ ?_
    rotate_left
    · intro w' s0
      refine Eq.trans (exec_load29 (x := .tmp 2) (T := tabI l) (p := pp) (by rfl) (by rfl) s0 HX7.out) ?_
      with_reducible rfl
    rotate_left
    · simp only [Act.put, List.setIfInBounds_toArray, List.set_cons_zero, List.set_cons_succ, i64_w, i32_w]
      rfl
    refine take_ (i := 1) (N := some 188) (v := ?_) (a' := ?_) #[true, true, false, false, false] rfl rfl (by kernel_rfl) (fun _ _ _ h => h) (Or.inl ⟨by rfl, ?_⟩) hHeld ?_ ?_
    rotate_left
    · intro w' s0
      refine Eq.trans (exec_load29 (x := .tmp 2) (T := tabI l) (p := pp) (by rfl) (by rfl) s0 HX7.out) ?_
      with_reducible rfl
    rotate_left
    · simp only [Act.put, List.setIfInBounds_toArray, List.set_cons_zero, List.set_cons_succ, i64_w, i32_w]
      rfl
    refine one_ (i := 2) (N := some 189) #[true, true, true, false, false] rfl rfl (by kernel_rfl) (by decide) (fun K hK => ?_)
    refine goes_ Try.func30 (by kernel_rfl) rfl #[.agg (tcells (tabI l) pp).toArray] (by rfl) rfl rfl (by simp only [List.map_toArray, List.map_cons, List.map_nil]; rfl) ?_
    with_reducible refine (may_n l pp w5 lt5.tab HD0.out.1 HD0.out.2).mono ?_
    rintro e w7 ⟨rfl, hb7⟩
    refine ⟨_, rfl, ?_⟩
    have tb7 : TBlk w7 b0 (tabI l) pp 29 := blk_below tb5 hb7
    have lt7 := lt5.step (fun k _ hlt => hb7.block k hlt)
    have be7 := below_step be5 hb7
    clear tb5 lt5 be5 hb7
    refine hK.out _ _ (tb7) (fun hHeld => ?_)
    clear hK K
    refine norm_ (a' := ?_) ?_ ?_
    rotate_left
    · show Act.put _ (some 189) _ = _
      simp only [Act.put, List.setIfInBounds_toArray, List.set_cons_zero, List.set_cons_succ, i64_w, i32_w]
      rfl
    refine one_ (i := 3) (N := none) #[true, true, true, true, false] rfl rfl (by kernel_rfl) (by decide) (fun K hK => ?_)
    refine skip_ (w1 := w7.setRow b0 (tcells (tabI l) pp).toArray) (by rfl) rfl (exec_store29 (x := .tmp 2) (y := .tmp 187) rfl rfl rfl tb7 HX7.out HX7.out) ?_
    obtain ⟨tb8, be8⟩ := row_set tb7 be7 HZ0.out (tcells (tabI l) pp).toArray
    have lt8 := lt7.keep (row_kb w7 b0 (tcells (tabI l) pp).toArray).1 HLO.out.2
    generalize w7.setRow b0 (tcells (tabI l) pp).toArray = w8 at tb8 be8 lt8 ⊢
    clear tb7 lt7 be7
    refine hK.out _ _ (tb8) (fun hHeld => ?_)
    clear hK K
    refine pure_ (i := 4) (N := some 3) (v := ?_) (a' := ?_) #[true, true, true, true, true] rfl rfl (by kernel_rfl) (fun _ _ _ h => h) (Or.inl ⟨by rfl, ?_⟩) ?_ ?_
    rotate_left
    · intro w'
      go_simp
      with_reducible rfl
    rotate_left
    · simp only [Act.put, List.setIfInBounds_toArray, List.set_cons_zero, List.set_cons_succ, i64_w, i32_w]
      rfl
    refine done_ (by kernel_rfl) ?_
    go_wp2_with (fail)
    refine bodyPost_ret (results_ct rfl _ _ b0 29 (tcells (tabI l) pp).toArray (0, 0) _ rfl tb8 Try.underlying29 rfl (sizeT HX7.out)) rfl ?_
    exact ⟨tabI l, pp, by rw [HRB.out]; first | done | rfl, HX7.out, fun _ => ⟨rfl, lt8.mono (fun k hk _ => by have := HLO.out.1 0 (by decide); have := HGS.out 0 (by decide); have := HNW.out; omega)⟩, be8⟩
  have b7 : ((((sec l 1).length : Nat) : Int) = 256) = False := eq_false (by omega)
  have b7n : ((sec l 1).length = 256) = False := eq_false c7
  have HRB := Aside0.mk (show readB l = false from readB_no (fun h => by omega))
  go_wp2_with (first | (refine wpList_store_row rfl 29 (.tmp 2) (.tmp 81) rfl b0 Try.zeroCells29 rfl rfl 29 (tcells T0 P0).toArray hTB.out (by rw [zc29]; exact sizeT T0_cls) ((tsz T0_cls).trans zcs.symm) (by rw [zc29]; exact tcells_one _ _) ?_; rw [zc29]; obtain ⟨hT9, hb9⟩ := row_set hTB.out hB.out HZ0.out (tcells T0 P0).toArray; generalize wr.setRow b0 (tcells T0 P0).toArray = w9 at hT9 hb9 ⊢))
  refine bodyPost_ret (results_ct rfl _ _ b0 29 (tcells T0 P0).toArray (0, 0) _ rfl hT9 Try.underlying29 rfl (sizeT T0_cls)) rfl ?_
  exact ⟨T0, P0, by rw [HRB.out]; first | done | rfl, T0_cls, (fun h => absurd (HRB.out.symm.trans h) (by decide)), hb9⟩
end Go.Proofs.Ytkeekganabafbaa.X
end
