import Derived.Test.YtkeekganabafbaaXJTu5
import Derived.Test.YtkeekganabafbaaXJTu8
import Derived.Test.YtkeekganabafbaaXJTu9
import Derived.Test.YtkeekganabafbaaXJTu11
import Derived.Test.YtkeekganabafbaaXJTu2
/- Texts of this claim, joined. -/
section
namespace Go.Proofs.Ytkeekganabafbaa.X
open Go.RowKit Go.Proofs.YtkeekganabafbaaW.PrintWords Go.Proofs.YtkeekganabafbaaW.PrintLast Go.Proofs.YtkeekganabafbaaW.PrintMore Go.Proofs.Ytkeekganabafbaa.Pure
attribute [local go_sem] max2_int min2_int max_two min_two max_three min_three max_four min_four
set_option linter.unusedVariables false
set_option linter.unusedSimpArgs false
theorem eqb_n (l0 l1 : List Int) (n0 n1 : Nat) (A0 A1 : Option Addr) (c0 c1 : Nat) (w : World) (h0 : l0.length = n0) (h1 : l1.length = n1) (hl : n0 ≤ 9223372036854775800) (hC0 : CB w A0 n0 l0) (hc0 : n0 ≤ c0) (hC1 : CB w A1 n1 l1) (hc1 : n1 ≤ c1) :
    Calls Try.prog 12 #[.slice A0 n0 c0, .slice A1 n1 c1] w fun e w' => e = .returned (.bool (decide (l0 = l1))) ∧ Below w.heap.size w w' := by
  subst h0
  subst h1
  obtain ⟨k, hk⟩ := (eq_ev l0 l1 hl).rounds
  exact (incunableref00_EqBytes.calls k A0 c0 l0 A1 c1 l1 _ w hC0 hc0 hC1 hc1 hk).mono (fun e w' h => ⟨h.1, h.2.below⟩)
theorem C_bytes {W : World} {g n : Nat} {xs : List Int} (h : W.heap[g]? = some (.cells (xs.map (Value.int .u8)).toArray 5 (0, 0))) (hn : xs.length = n) (hm : n ≤ 1000) : CB W (some ⟨g, 0, none⟩) n xs := by
  refine ⟨hn, by omega, fun _ => ⟨_, rfl, fun j p hj => ⟨[.int .u8 p], rfl, rfl, fun i u hu => ?_⟩⟩⟩
  rcases i with _ | i
  · injection hu with hu
    subst hu
    show W.cell? ((⟨g, 0, none⟩ : Addr).add (j * 1 + 0)) = _
    rw [Nat.mul_one, Nat.add_zero, add_plain, blk_cell h j, List.getElem?_toArray, List.getElem?_map, hj]
    rfl
  simp at hu
theorem TLeast_small : TSmall TLeast := ⟨TLeast_cls, fun k hk => by rw [List.eq_of_mem_replicate hk]; decide, by decide, fun r hr => by rw [List.mem_singleton.1 hr]; decide, by decide, by decide, by decide, fun r hr => by rw [List.mem_singleton.1 hr]; decide, by decide, fun r hr => by rw [List.mem_singleton.1 hr]; decide, by decide, by decide⟩
theorem mayB_bad : mayB (TLa ⟨1, 0⟩) = false := by kernel_rfl
theorem secL_len8 : (secL TLeast).length = 8 := rfl
theorem least_all : ∃ b, bytesI TLeast = (b, 0) ∧ unpackI b = (1, secL TLeast, 0) ∧ parseI b = (TLeast, 0) ∧ BI b ∧ b.length ≤ 1000000 := by
  obtain ⟨b, hb⟩ := pack_least
  have h1 : bytesI TLeast = (b, 0) := bytes_least.trans hb
  have h2 := unpack_packI 1 (secL TLeast) b hb (secL_OK (fun _ _ => trivial))
  obtain ⟨e1, e2, e3, e4⟩ := packI_ok 1 (secL TLeast) b hb
  refine ⟨b, h1, h2.1, (parse_bytes TLeast TLeast_cls b h1).1, ?_, ?_⟩
  · rw [e1]
    have hB := packB_BI 1 (secL TLeast) (secL_OK (fun _ _ => trivial))
    exact BI_append hB (fourI_BI _)
  rw [e1, sealI_length, packB_length]
  omega
theorem LB.least {W : World} {g1 g2 g3 g6 g7 g8 g9 g10 g11 : Nat} (h : LB W g1 g2 g3 g6 g7 g8 g9 g10 g11 ⟨0, 0⟩) : TabR W TLeast (pL g2 g3 g7 g9 g10 g11) := h.tab
theorem tla_n : (TLa ⟨1, 0⟩).next.length ≤ 9223372036854775806 := by decide
theorem tla_u : (TLa ⟨1, 0⟩).rule.length ≤ 9223372036854775806 := by decide
theorem tla_t : (TLa ⟨1, 0⟩).terms.length ≤ 9223372036854775806 := by decide
set_option maxHeartbeats 32000000 in
set_option maxRecDepth 100000 in
theorem works_calls (w : World) : Calls Try.prog 9 #[] w fun e w' => e = .returned (.bool true) ∧ Below w.heap.size w w' := by
  obtain ⟨b, hb1_, hb2_, hb3_, hb4_, hb5_⟩ := least_all
  have HBY := Aside0.mk hb1_
  have HUN := Aside0.mk hb2_
  have HPA := Aside0.mk hb3_
  have HBI := Aside0.mk hb4_
  have HBL := Aside0.mk hb5_
  clear hb1_ hb2_ hb3_ hb4_ hb5_
  go_enter Try.func9, Try.ntmps9
  go_upto_region 2 with (first | (go_at_call 15; refine (Least_calls _).mono ?_; rintro e u1 ⟨g1, g2, g3, g6, g7, g8, g9, g10, g11, rfl, hLB1, hlo1, hne1, hbe1⟩) | ((with_reducible refine gate_dst (N := 1) rfl ?_); refine box_event ?hg (N := 1) ?hd (cs := (tcells T0 P0).toArray) (t := 29) ?hr ?_; (case hd => rfl); (case hg => rfl); (case hr => rw [← zc29]; simp [execOp, go_sem]); intro b1 hg w2 hTB2 hbe2; have hz1 : u1.heap.size ≤ b1 := Nat.le_of_eq hg.symm; clear hg) | (refine wpList_store_row rfl 29 (.tmp 1) (.tmp 11) rfl b1 (tcells TLeast (pL g2 g3 g7 g9 g10 g11)).toArray rfl rfl 29 (tcells T0 P0).toArray hTB2 (sizeT TLeast_cls) ((tsz T0_cls).trans (tsz TLeast_cls).symm) (tcells_one _ _) ?_))
  have hTB3 : TBlk (w2.setRow b1 (tcells TLeast (pL g2 g3 g7 g9 g10 g11)).toArray) b1 TLeast (pL g2 g3 g7 g9 g10 g11) 29 := setRow_heap w2 b1 _ _ 29 (0, 0) hTB2
  have hb13 : Below u1.heap.size u1 (w2.setRow b1 (tcells TLeast (pL g2 g3 g7 g9 g10 g11)).toArray) := keep_below hbe2 (row_kb w2 b1 _) hz1
  generalize w2.setRow b1 (tcells TLeast (pL g2 g3 g7 g9 g10 g11)).toArray = w3 at hTB3 hb13 ⊢
  have HNE := Aside0.mk hne1
  have HLO := Aside0.mk hlo1
  have HGL := Aside0.mk (show ∀ k, k ∈ [g1, g2, g3, g6, g7, g8, g9, g10, g11] → k < u1.heap.size from fun k hk => by
    simp only [List.mem_cons, List.not_mem_nil, or_false] at hk
    rcases hk with rfl | rfl | rfl | rfl | rfl | rfl | rfl | rfl | rfl
    · exact blk_lt hLB1.b1
    · exact blk_lt hLB1.b2
    · exact blk_lt hLB1.b3
    · exact blk_lt hLB1.b6
    · exact blk_lt hLB1.b7
    · exact blk_lt hLB1.b8
    · exact blk_lt hLB1.b9
    · exact blk_lt hLB1.b10
    exact blk_lt hLB1.b11)
  have HLB3 := Aside0.mk (hLB1.move (W' := w3) (fun k hk => hb13.block k (HGL.out k hk)))
  have HTB3 := Aside0.mk hTB3
  have HB3 := Aside0.mk (below_step hbe1 hb13)
  have HU3 := Aside0.mk (show u1.heap.size ≤ w3.heap.size from hb13.size)
  have HZ1 := Aside0.mk hz1
  have HU1 := Aside0.mk hbe1.size
  clear hTB2 hb13 hbe2 hz1 hne1 hlo1 hLB1 hTB3 hbe1
  go_upto_region 4 with (first | ((with_reducible refine gate_dst (N := 13) rfl ?_); refine wpList_load_mid rfl 29 (.tmp 1) rfl b1 0 rfl (tcells TLeast (pL g2 g3 g7 g9 g10 g11)) _ (TBlk.rangeT HTB3.out) Try.underlying29 rfl (by rw [tcells_length TLeast_cls]; exact size29) ?_) | (go_at_call 10; refine (Bytes_calls TLeast (pL g2 g3 g7 g9 g10 g11) _ HLB3.out.tab (by decide) (by decide) (by decide)).mono ?_; rintro e w4 ⟨v4, rfl, hR4, hb4⟩; rw [HBY.out] at hR4; simp only [HBY.out]; obtain ⟨A4, c4, rfl⟩ := Kd.R_slice hR4; have HC4 := Aside0.mk (Kd.R_reads' hR4)) | (go_at_call 22; refine (unpack_n b A4 b.length c4 _ rfl (by have := HBL.out; omega) HBI.out HC4.out.2.2 HC4.out.2.1).mono ?_; rintro e w5 ⟨A5, c5, rfl, hc5, hC5, hb5⟩; rw [HUN.out] at hc5 hC5; simp only [HUN.out]))
  have HC5 := Aside0.mk hC5
  have HCC5 := Aside0.mk hc5
  have HB5 := Aside0.mk (below_step hb4 hb5)
  have HB45 := Aside0.mk hb5
  clear hC5 hc5 hb4 hb5 hR4
  rw [secL_len8] at HC5 HCC5 ⊢
  obtain ⟨adS, _, _, eaS, _, _, _, _⟩ := at_T48 HC5.out 0 (by decide) (by decide)
  subst eaS
  go_upto_region 6 with (fail)
  go_wp2_with (first | ((with_reducible refine gate_dst (N := 38) rfl ?_); refine slice_event ?hg (N := 38) ?hd (cs := #[.int .u8 1, .int .u8 1, .int .u8 0, .int .u8 1, .int .u8 1, .int .u8 2, .int .u8 1]) (t := 5) (n := 7) ?hr ?_; (case hd => rfl); (case hg => rfl); (case hr => first | (go_simp; done) | (go_simp; rfl)); intro k38 hg v38 hk38 be38; clear hg) | ((with_reducible refine gate_dst (N := 39) rfl ?_); refine Kd.R_make (Kd.int .u8) (w0 := _) v38.heap.size 5 rfl (N := 39) rfl 31 _ _ rfl 256 rfl rfl Try.underlying31 (.int .u8 0) 1 info5 rfl (by decide) (by omega) 0 (ok := fun _ => True) (okp := fun _ => True) rfl (fun _ hk => hk) trivial (by omega) (by omega) (Below.refl _ _) (Nat.le_refl _) ?_; intro x39 v39 hR39 be39 _ _; obtain ⟨A39, c39, e39⟩ := Kd.R_slice hR39; rw [List.length_replicate] at e39; have e39' : x39 = .slice A39 256 c39 := e39; clear e39; subst e39'; have hC39 := Kd.R_reads' hR39) | ((with_reducible refine gate_dst (N := 40) rfl ?_); refine slice_event ?hg (N := 40) ?hd (cs := #[.int .u8 0]) (t := 5) (n := 1) ?hr ?_; (case hd => rfl); (case hg => rfl); (case hr => first | (go_simp; done) | (go_simp; rfl)); intro k40 hg v40 hk40 be40; clear hg) | ((with_reducible refine gate_dst (N := 41) rfl ?_); refine slice_event ?hg (N := 41) ?hd (cs := #[.int .u8 0]) (t := 5) (n := 1) ?hr ?_; (case hd => rfl); (case hg => rfl); (case hr => first | (go_simp; done) | (go_simp; rfl)); intro k41 hg v41 hk41 be41; clear hg) | ((with_reducible refine gate_dst (N := 42) rfl ?_); refine slice_event ?hg (N := 42) ?hd (cs := #[.int .u8 0]) (t := 5) (n := 1) ?hr ?_; (case hd => rfl); (case hg => rfl); (case hr => first | (go_simp; done) | (go_simp; rfl)); intro k42 hg v42 hk42 be42; clear hg) | ((with_reducible refine gate_dst (N := 43) rfl ?_); refine slice_event ?hg (N := 43) ?hd (cs := #[.int .u8 0, .int .u8 0]) (t := 5) (n := 2) ?hr ?_; (case hd => rfl); (case hg => rfl); (case hr => first | (go_simp; done) | (go_simp; rfl)); intro k43 hg v43 hk43 be43; clear hg) | ((with_reducible refine gate_dst (N := 44) rfl ?_); refine slice_event ?hg (N := 44) ?hd (cs := #[.int .u8 0, .int .u8 1]) (t := 5) (n := 2) ?hr ?_; (case hd => rfl); (case hg => rfl); (case hr => first | (go_simp; done) | (go_simp; rfl)); intro k44 hg v44 hk44 be44; clear hg) | ((with_reducible refine gate_dst (N := 45) rfl ?_); refine slice_event ?hg (N := 45) ?hd (cs := #[.slice (some ⟨k38, 0, none⟩) 7 7, .slice A39 256 c39, .slice (some ⟨k40, 0, none⟩) 1 1, .slice (some ⟨k41, 0, none⟩) 1 1, .slice none 0 0, .slice (some ⟨k42, 0, none⟩) 1 1, .slice (some ⟨k43, 0, none⟩) 2 2, .slice (some ⟨k44, 0, none⟩) 2 2]) (t := 31) (n := 8) ?hr ?_; (case hd => rfl); (case hg => rfl); (case hr => first | (go_simp; done) | (go_simp; rfl)); intro gw hg v45 hw45 be45; clear hg))
  have HGV := Aside0.mk (show GV v45 [.slice (some ⟨k38, 0, none⟩) 7 7, .slice A39 256 c39, .slice (some ⟨k40, 0, none⟩) 1 1, .slice (some ⟨k41, 0, none⟩) 1 1, .slice none 0 0, .slice (some ⟨k42, 0, none⟩) 1 1, .slice (some ⟨k43, 0, none⟩) 2 2, .slice (some ⟨k44, 0, none⟩) 2 2] (secL TLeast) from by
    rw [secL_least]
    exact GV.cons rfl (Nat.le_refl _) (C_bytes (xs := [1, 1, 0, 1, 1, 2, 1]) (blk_below (blk_below (blk_below (blk_below (blk_below (blk_below (blk_below hk38 be39) be40) be41) be42) be43) be44) be45) rfl (by decide)) (GV.cons List.length_replicate hC39.2.1 (Kd.C_below (Kd.C_below (Kd.C_below (Kd.C_below (Kd.C_below (Kd.C_below hC39.2.2 be40) be41) be42) be43) be44) be45) (GV.cons rfl (Nat.le_refl _) (C_bytes (xs := [0]) (blk_below (blk_below (blk_below (blk_below (blk_below hk40 be41) be42) be43) be44) be45) rfl (by decide)) (GV.cons rfl (Nat.le_refl _) (C_bytes (xs := [0]) (blk_below (blk_below (blk_below (blk_below hk41 be42) be43) be44) be45) rfl (by decide)) (GV.cons rfl (Nat.le_refl _) (Kd.C_nil _ _) (GV.cons rfl (Nat.le_refl _) (C_bytes (xs := [0]) (blk_below (blk_below (blk_below hk42 be43) be44) be45) rfl (by decide)) (GV.cons rfl (Nat.le_refl _) (C_bytes (xs := [0, 0]) (blk_below (blk_below hk43 be44) be45) rfl (by decide)) (GV.cons rfl (Nat.le_refl _) (C_bytes (xs := [0, 1]) (blk_below hk44 be45) rfl (by decide)) (GV.nil _)))))))))
  have HW45 := Aside0.mk hw45
  have HB45v := Aside0.mk (below_step (below_step (below_step (below_step (below_step (below_step (below_step (below_step (Below.refl w5.heap.size w5) be38) be39) be40) be41) be42) be43) be44) be45)
  clear be38 be39 be40 be41 be42 be43 be44 be45 hk38 hk40 hk41 hk42 hk43 hk44 hw45 hC39 hR39
  go_loopg [8] 9 (fun kq v8 w' => ∃ (i : Int), v8 = .int .i64 i ∧ Aside0 (0 ≤ i) ∧ Aside0 (i ≤ 8) ∧ Aside0 ((kq : Int) + i = 9) ∧ Aside0 (Below v45.heap.size v45 w'))
  case atStart => exact ⟨0, rfl, ⟨by decide⟩, ⟨by decide⟩, ⟨by decide⟩, ⟨Below.refl _ _⟩⟩
  obtain ⟨i, rfl, hi0, hi1, hk, hB⟩ := hrel
  have hkk := hk.out
  by_cases hlt : i < 8
  · have l1 : decide (i < 8) = true := decide_eq_true hlt
    have hwi : IntKind.i64.wrap (i + 1) = i + 1 := by have := hi0.out; simp only [i64_w]; unfold wrap64; omega
    have p1 := eq_true hi0.out
    have q1 := eq_true hlt
    have q1n : (i < ((8 : Nat) : Int)) = True := eq_true hlt
    have HLT := Aside0.mk hlt
    obtain ⟨⟨s0_, sl⟩, hs⟩ : ∃ s, (secL TLeast)[i.toNat]? = some s := ⟨_, List.getElem?_eq_getElem (by rw [secL_len8]; have := hi0.out; omega)⟩
    have hs0 : s0_ = i + 1 := (secL_tag TLeast i.toNat _ hs).trans (by have := hi0.out; omega)
    subst hs0
    obtain ⟨Aw, cw, hv, hcw, hCw⟩ := HGV.out.2 _ _ hs
    dsimp only at hv hcw hCw
    obtain ⟨adS', As, cs, eaS', hx0_, hx1_, hls, hCs⟩ := at_T48 HC5.out i hi0.out hlt
    obtain rfl : adS = adS' := by injection eaS'
    have hrd : rd_T48 (secL TLeast) i = (⟨i + 1, sl⟩ : S48) := by
      unfold rd_T48
      rw [List.getD_eq_getElem?_getD, hs]
      rfl
    rw [hrd] at hx0_ hx1_ hls hCs
    dsimp only at hx0_ hx1_ hls hCs
    have hB5r := below_step HB45v.out hB.out
    have f1 := (hB5r.cell (World.block_lt_of_cell? w5 _ hx0_)).trans hx0_
    have f2 := (hB5r.cell (World.block_lt_of_cell? w5 _ hx1_)).trans hx1_
    have f3_ := (blk_cell HW45.out i.toNat).trans ((List.getElem?_toArray).trans hv)
    have f3 := (hB.out.cell (World.block_lt_of_cell? v45 _ f3_)).trans f3_
    have HCs := Aside0.mk (Kd.C_below hCs hB5r)
    have HCw := Aside0.mk (Kd.C_below hCw hB.out)
    have HLs := Aside0.mk (And.intro hls hcw)
    have HSL := Aside0.mk (show sl.length ≤ 2000000 from secL_big (may_parts mayB_least) TLeast_cls ⟨i + 1, sl⟩ (List.mem_of_getElem? hs))
    clear hlt hs hv hcw hCw hx0_ hx1_ hls hCs hrd f3_ eaS' hB5r
    go_upto_region 10 with (fail)
    refine start_ (n := 21) (S := fun w' => w'.cell? (adS.add (i.toNat * 2)) = some (.int .i64 (i + 1)) ∧ w'.cell? ⟨(adS.add (i.toNat * 2)).block, (adS.add (i.toNat * 2)).off + 1, none⟩ = some (.slice As sl.length cs) ∧ w'.cell? ⟨gw, i.toNat, none⟩ = some (.slice Aw sl.length cw)) (ds := []) #[false, false, false, false, false, false, false, false, false, false, false, false, false, false, false, false, false, false, false, false, false] (by kernel_rfl) rfl rfl ⟨f1, f2, f3⟩ (fun hHeld => ?_)
    generalize HW : wr.drew = w6 at hHeld ⊢
    have hb6 : Below wr.heap.size wr w6 := by rw [← HW]; exact below_drew (Below.refl _ _)
    clear HW
    refine pure_ (i := 0) (N := some 50) (v := ?_) (a' := ?_) #[true, false, false, false, false, false, false, false, false, false, false, false, false, false, false, false, false, false, false, false, false] rfl rfl (by kernel_rfl) (fun _ _ _ h => h) (Or.inl ⟨by rfl, ?_⟩) ?_ ?_
    rotate_left
    · intro w'
      go_simp
      with_reducible rfl
    rotate_left
    · simp only [Act.put, List.setIfInBounds_toArray, List.set_cons_zero, List.set_cons_succ, i64_w, i32_w]
      rfl
    refine pure_ (i := 1) (N := some 51) (v := ?_) (a' := ?_) #[true, true, false, false, false, false, false, false, false, false, false, false, false, false, false, false, false, false, false, false, false] rfl rfl (by kernel_rfl) (fun _ _ _ h => h) (Or.inl ⟨by rfl, ?_⟩) ?_ ?_
    rotate_left
    · intro w'
      go_simp
      with_reducible rfl
    rotate_left
    · simp only [Act.put, List.setIfInBounds_toArray, List.set_cons_zero, List.set_cons_succ, i64_w, i32_w]
      rfl
    refine pure_ (i := 2) (N := some 52) (v := ?_) (a' := ?_) #[true, true, true, false, false, false, false, false, false, false, false, false, false, false, false, false, false, false, false, false, false] rfl rfl (by kernel_rfl) (fun _ _ _ h => h) (Or.inl ⟨by rfl, ?_⟩) ?_ ?_
    rotate_left
    · intro w'
      go_simp
      with_reducible rfl
    rotate_left
    · simp only [Act.put, List.setIfInBounds_toArray, List.set_cons_zero, List.set_cons_succ, i64_w, i32_w]
      rfl
    refine pure_ (i := 3) (N := some 53) (v := ?_) (a' := ?_) #[true, true, true, true, false, false, false, false, false, false, false, false, false, false, false, false, false, false, false, false, false] rfl rfl (by kernel_rfl) (fun _ _ _ h => h) (Or.inl ⟨by rfl, ?_⟩) ?_ ?_
    rotate_left
    · intro w'
      go_simp
      with_reducible rfl
    rotate_left
    · simp only [Act.put, List.setIfInBounds_toArray, List.set_cons_zero, List.set_cons_succ, i64_w, i32_w]
      rfl
    refine pure_ (i := 5) (N := some 55) (v := ?_) (a' := ?_) #[true, true, true, true, false, true, false, false, false, false, false, false, false, false, false, false, false, false, false, false, false] rfl rfl (by kernel_rfl) (fun _ _ _ h => h) (Or.inl ⟨by rfl, ?_⟩) ?_ ?_
    rotate_left
    · intro w'
      go_simp
      with_reducible rfl
    rotate_left
    · simp only [Act.put, List.setIfInBounds_toArray, List.set_cons_zero, List.set_cons_succ, i64_w, i32_w]
      rfl
    refine pure_ (i := 6) (N := some 56) (v := ?_) (a' := ?_) #[true, true, true, true, false, true, true, false, false, false, false, false, false, false, false, false, false, false, false, false, false] rfl rfl (by kernel_rfl) (fun _ _ _ h => h) (Or.inl ⟨by rfl, ?_⟩) ?_ ?_
    rotate_left
    · intro w'
      go_simp
      with_reducible rfl
    rotate_left
    · simp only [Act.put, List.setIfInBounds_toArray, List.set_cons_zero, List.set_cons_succ, i64_w, i32_w]
      rfl
    refine take_ (i := 4) (N := some 54) (v := ?_) (a' := ?_) #[true, true, true, true, true, true, true, false, false, false, false, false, false, false, false, false, false, false, false, false, false] rfl rfl (by kernel_rfl) (fun _ _ _ h => h) (Or.inl ⟨by rfl, ?_⟩) hHeld ?_ ?_
    rotate_left
    · rintro w' ⟨s0, s1, s2⟩
      go_simp
      with_reducible rfl
    rotate_left
    · simp only [Act.put, List.setIfInBounds_toArray, List.set_cons_zero, List.set_cons_succ, i64_w, i32_w]
      rfl
    refine pure_ (i := 7) (N := some 57) (v := ?_) (a' := ?_) #[true, true, true, true, true, true, true, true, false, false, false, false, false, false, false, false, false, false, false, false, false] rfl rfl (by kernel_rfl) (fun _ _ _ h => h) (Or.inl ⟨by rfl, ?_⟩) ?_ ?_
    rotate_left
    · intro w'
      go_simp
      with_reducible rfl
    rotate_left
    · simp only [Act.put, List.setIfInBounds_toArray, List.set_cons_zero, List.set_cons_succ, i64_w, i32_w]
      rfl
    refine pure_ (i := 8) (N := some 58) (v := ?_) (a' := ?_) #[true, true, true, true, true, true, true, true, true, false, false, false, false, false, false, false, false, false, false, false, false] rfl rfl (by kernel_rfl) (fun _ _ _ h => h) (Or.inl ⟨by rfl, ?_⟩) ?_ ?_
    rotate_left
    · intro w'
      go_simp
      with_reducible rfl
    rotate_left
    · simp only [Act.put, List.setIfInBounds_toArray, List.set_cons_zero, List.set_cons_succ, i64_w, i32_w]
      rfl
    refine pure_ (i := 9) (N := some 59) (v := ?_) (a' := ?_) #[true, true, true, true, true, true, true, true, true, true, false, false, false, false, false, false, false, false, false, false, false] rfl rfl (by kernel_rfl) (fun _ _ _ h => h) (Or.inl ⟨by rfl, ?_⟩) ?_ ?_
    rotate_left
    · intro w'
      go_simp
      with_reducible rfl
    rotate_left
    · simp only [Act.put, List.setIfInBounds_toArray, List.set_cons_zero, List.set_cons_succ, i64_w, i32_w]
      rfl
    refine pure_ (i := 10) (N := some 60) (v := ?_) (a' := ?_) #[true, true, true, true, true, true, true, true, true, true, true, false, false, false, false, false, false, false, false, false, false] rfl rfl (by kernel_rfl) (fun _ _ _ h => h) (Or.inl ⟨by rfl, ?_⟩) ?_ ?_
    rotate_left
    · intro w'
      go_simp
      with_reducible rfl
    rotate_left
    · simp only [Act.put, List.setIfInBounds_toArray, List.set_cons_zero, List.set_cons_succ, i64_w, i32_w]
      rfl
    refine pure_ (i := 11) (N := some 61) (v := ?_) (a' := ?_) #[true, true, true, true, true, true, true, true, true, true, true, true, false, false, false, false, false, false, false, false, false] rfl rfl (by kernel_rfl) (fun _ _ _ h => h) (Or.inl ⟨by rfl, ?_⟩) ?_ ?_
    rotate_left
    · intro w'
      go_simp
      with_reducible rfl
    rotate_left
    · simp only [Act.put, List.setIfInBounds_toArray, List.set_cons_zero, List.set_cons_succ, i64_w, i32_w]
      rfl
    refine pure_ (i := 12) (N := some 62) (v := ?_) (a' := ?_) #[true, true, true, true, true, true, true, true, true, true, true, true, true, false, false, false, false, false, false, false, false] rfl rfl (by kernel_rfl) (fun _ _ _ h => h) (Or.inl ⟨by rfl, ?_⟩) ?_ ?_
    rotate_left
    · intro w'
      go_simp
      with_reducible rfl
    rotate_left
    · simp only [Act.put, List.setIfInBounds_toArray, List.set_cons_zero, List.set_cons_succ, i64_w, i32_w]
      rfl
    refine pure_ (i := 14) (N := some 64) (v := ?_) (a' := ?_) #[true, true, true, true, true, true, true, true, true, true, true, true, true, false, true, false, false, false, false, false, false] rfl rfl (by kernel_rfl) (fun _ _ _ h => h) (Or.inl ⟨by rfl, ?_⟩) ?_ ?_
    rotate_left
    · intro w'
      go_simp
      with_reducible rfl
    rotate_left
    · simp only [Act.put, List.setIfInBounds_toArray, List.set_cons_zero, List.set_cons_succ, i64_w, i32_w]
      rfl
    refine pure_ (i := 15) (N := some 65) (v := ?_) (a' := ?_) #[true, true, true, true, true, true, true, true, true, true, true, true, true, false, true, true, false, false, false, false, false] rfl rfl (by kernel_rfl) (fun _ _ _ h => h) (Or.inl ⟨by rfl, ?_⟩) ?_ ?_
    rotate_left
    · intro w'
      go_simp
      with_reducible rfl
    rotate_left
    · simp only [Act.put, List.setIfInBounds_toArray, List.set_cons_zero, List.set_cons_succ, i64_w, i32_w]
      rfl
    refine pure_ (i := 16) (N := some 66) (v := ?_) (a' := ?_) #[true, true, true, true, true, true, true, true, true, true, true, true, true, false, true, true, true, false, false, false, false] rfl rfl (by kernel_rfl) (fun _ _ _ h => h) (Or.inl ⟨by rfl, ?_⟩) ?_ ?_
    rotate_left
    · intro w'
      go_simp
      with_reducible rfl
    rotate_left
    · simp only [Act.put, List.setIfInBounds_toArray, List.set_cons_zero, List.set_cons_succ, i64_w, i32_w]
      rfl
    refine take_ (i := 13) (N := some 63) (v := ?_) (a' := ?_) #[true, true, true, true, true, true, true, true, true, true, true, true, true, true, true, true, true, false, false, false, false] rfl rfl (by kernel_rfl) (fun _ _ _ h => h) (Or.inl ⟨by rfl, ?_⟩) hHeld ?_ ?_
    rotate_left
    · rintro w' ⟨s0, s1, s2⟩
      go_simp
      with_reducible rfl
    rotate_left
    · simp only [Act.put, List.setIfInBounds_toArray, List.set_cons_zero, List.set_cons_succ, i64_w, i32_w]
      rfl
    refine take_ (i := 17) (N := some 67) (v := ?_) (a' := ?_) #[true, true, true, true, true, true, true, true, true, true, true, true, true, true, true, true, true, true, false, false, false] rfl rfl (by kernel_rfl) (fun _ _ _ h => h) (Or.inl ⟨by rfl, ?_⟩) hHeld ?_ ?_
    rotate_left
    · rintro w' ⟨s0, s1, s2⟩
      go_simp
      with_reducible rfl
    rotate_left
    · simp only [Act.put, List.setIfInBounds_toArray, List.set_cons_zero, List.set_cons_succ, i64_w, i32_w]
      rfl
    refine one_ (i := 18) (N := some 68) #[true, true, true, true, true, true, true, true, true, true, true, true, true, true, true, true, true, true, true, false, false] rfl rfl (by kernel_rfl) (by decide) (fun K hK => ?_)
    refine goes_ Try.func12 (by kernel_rfl) rfl #[.slice As sl.length cs, .slice Aw sl.length cw] (by rfl) rfl rfl (by simp only [List.map_toArray, List.map_cons, List.map_nil]; rfl) ?_
    have hq : decide (sl = sl) = true := decide_eq_true rfl
    with_reducible refine (eqb_n sl sl sl.length sl.length As Aw cs cw w6 rfl rfl (by have := HSL.out; omega) (Kd.C_below HCs.out hb6) HLs.out.1 (Kd.C_below HCw.out hb6) HLs.out.2).mono ?_
    rintro e w7 ⟨he, hb7⟩
    rw [hq] at he
    subst he
    refine ⟨_, rfl, ?_⟩
    refine hK.out _ _ ⟨((hb7.cell (World.block_lt_of_cell? w6 _ hHeld.1)).trans hHeld.1), ((hb7.cell (World.block_lt_of_cell? w6 _ hHeld.2.1)).trans hHeld.2.1), ((hb7.cell (World.block_lt_of_cell? w6 _ hHeld.2.2)).trans hHeld.2.2)⟩ (fun hHeld => ?_)
    clear hK K
    refine norm_ (a' := ?_) ?_ ?_
    rotate_left
    · show Act.put _ (some 68) _ = _
      simp only [Act.put, List.setIfInBounds_toArray, List.set_cons_zero, List.set_cons_succ, i64_w, i32_w]
      rfl
    refine pure_ (i := 19) (N := some 69) (v := ?_) (a' := ?_) #[true, true, true, true, true, true, true, true, true, true, true, true, true, true, true, true, true, true, true, true, false] rfl rfl (by kernel_rfl) (fun _ _ _ h => h) (Or.inl ⟨by rfl, ?_⟩) ?_ ?_
    rotate_left
    · intro w'
      go_simp
      with_reducible rfl
    rotate_left
    · simp only [Act.put, List.setIfInBounds_toArray, List.set_cons_zero, List.set_cons_succ, i64_w, i32_w]
      rfl
    refine pure_ (i := 20) (N := some 70) (v := ?_) (a' := ?_) #[true, true, true, true, true, true, true, true, true, true, true, true, true, true, true, true, true, true, true, true, true] rfl rfl (by kernel_rfl) (fun _ _ _ h => h) (Or.inl ⟨by rfl, ?_⟩) ?_ ?_
    rotate_left
    · intro w'
      go_simp
      with_reducible rfl
    rotate_left
    · simp only [Act.put, List.setIfInBounds_toArray, List.set_cons_zero, List.set_cons_succ, i64_w, i32_w]
      rfl
    refine done_ (by kernel_rfl) ?_
    clear hHeld
    go_wp2_with (fail)
    go_roundg (gk - 1)
    case measure => have := HLT.out; have := hi0.out; omega
    case rel => exact ⟨i + 1, rfl, ⟨by have := hi0.out; omega⟩, ⟨by have := HLT.out; omega⟩, ⟨by have := HLT.out; omega⟩, ⟨below_step (below_step hB.out hb6) hb7⟩⟩
  have l1 : decide (i < 8) = false := decide_eq_false hlt
  clear hkk hk hi0 hi1 hlt
  have HBr := Aside0.mk (below_step (below_step HB5.out HB45v.out) hB.out)
  have HB4r := Aside0.mk (below_step (below_step HB45.out HB45v.out) hB.out)
  have HLBr := Aside0.mk (HLB3.out.move (W' := wr) (fun k hk => HBr.out.block k (Nat.lt_of_lt_of_le (HGL.out k hk) HU3.out)))
  have HTBr := Aside0.mk (show TBlk wr b1 TLeast (pL g2 g3 g7 g9 g10 g11) 29 from blk_below HTB3.out HBr.out)
  have HNr := Aside0.mk (show u1.heap.size ≤ wr.heap.size from Nat.le_trans HU3.out HBr.out.size)
  clear hB
  go_upto_region 13 with (first | (go_at_call 17; refine (Parse_calls b A4 b.length c4 _ rfl (by have := HBL.out; omega) HBI.out (Kd.C_below HC4.out.2.2 HB4r.out) HC4.out.2.1).mono ?_; rintro e w12 ⟨py, rfl, hcy, hty, hb12⟩; rw [HPA.out] at hcy hty; simp only [HPA.out]) | ((with_reducible refine gate_dst (N := 9) rfl ?_); refine box_event ?hg (N := 9) ?hd (cs := (tcells T0 P0).toArray) (t := 29) ?hr ?_; (case hd => rfl); (case hg => rfl); (case hr => rw [← zc29]; simp [execOp, go_sem]); intro b9 hg w13 hTB13 hbe13; have hz9 : w12.heap.size ≤ b9 := Nat.le_of_eq hg.symm; clear hg) | (refine wpList_store_row rfl 29 (.tmp 9) (.tmp 74) rfl b9 (tcells TLeast py).toArray rfl rfl 29 (tcells T0 P0).toArray hTB13 (sizeT TLeast_cls) ((tsz T0_cls).trans (tsz TLeast_cls).symm) (tcells_one _ _) ?_))
  have hTB14 : TBlk (w13.setRow b9 (tcells TLeast py).toArray) b9 TLeast py 29 := setRow_heap w13 b9 _ _ 29 (0, 0) hTB13
  have hb1214 : Below w12.heap.size w12 (w13.setRow b9 (tcells TLeast py).toArray) := keep_below hbe13 (row_kb w13 b9 _) hz9
  generalize w13.setRow b9 (tcells TLeast py).toArray = w14 at hTB14 hb1214 ⊢
  have hbr14 := below_step hb12 hb1214
  have hLB14 := HLBr.out.move (W' := w14) (fun k hk => hbr14.block k (Nat.lt_of_lt_of_le (HGL.out k hk) HNr.out))
  have hTBx14 : TBlk w14 b1 TLeast (pL g2 g3 g7 g9 g10 g11) 29 := blk_below HTBr.out hbr14
  have hty14 := hty.step (fun k _ hlt => hb1214.block k hlt)
  have hg6 : g6 < u1.heap.size := HGL.out g6 (by simp)
  have hbb1 : b1 < wr.heap.size := blk_lt HTBr.out
  have hb9z : wr.heap.size ≤ b9 := by have := hb12.size; omega
  have x1 := (TBlk.tail hTBx14 TLeast_cls 1).trans (show _ = some (Value.slice (some ⟨g7, 0, none⟩) 1 1) from rfl)
  have x2 := (blk_cell hLB14.b7 0).trans (show _ = some (Value.slice (some ⟨g6, 0, none⟩) 1 1) from rfl)
  have y0 := (blk_cell hLB14.b6 0).trans (show _ = some (Value.int .i64 0) from rfl)
  have y1 := (blk_cell hLB14.b6 1).trans (show _ = some (Value.int .i64 0) from rfl)
  have z0 := blk_frozen hLB14.b6 0
  have z1 := blk_frozen hLB14.b6 1
  clear hTB13 hbe13 hz9 hb1214 hb12 hty
  go_upto_region 14 with (fail)
  have hk15 := (KB.set w14 g6 0 (.int .i64 1)).trans (KB.set _ g6 1 (.int .i64 0))
  have hb6n : ((w14.setCell ⟨g6, 0, none⟩ (.int .i64 1)).setCell ⟨g6, 1, none⟩ (.int .i64 0)).heap[g6]? = some (.cells #[.int .i64 1, .int .i64 0] 38 (0, 0)) := blk_put (blk_put hLB14.b6 0 (.int .i64 1) rfl) 1 (.int .i64 0) rfl
  generalize (w14.setCell ⟨g6, 0, none⟩ (.int .i64 1)).setCell ⟨g6, 1, none⟩ (.int .i64 0) = w15 at hk15 hb6n ⊢
  have hg : ∀ k, k ∈ [g1, g2, g3, g7, g8, g9, g10, g11] → w15.heap[k]? = w14.heap[k]? := fun k hk => hk15.1.2 k (Nat.lt_of_lt_of_le (HGL.out k (by simp only [List.mem_cons, List.not_mem_nil, or_false] at hk ⊢; omega)) (Nat.le_trans HNr.out hbr14.size)) (HNE.out k hk) (by simp)
  have hLB15 : LB w15 g1 g2 g3 g6 g7 g8 g9 g10 g11 ⟨1, 0⟩ := ⟨(hg g1 (by simp)).trans hLB14.b1, (hg g2 (by simp)).trans hLB14.b2, (hg g3 (by simp)).trans hLB14.b3, hb6n, (hg g7 (by simp)).trans hLB14.b7, (hg g8 (by simp)).trans hLB14.b8, (hg g9 (by simp)).trans hLB14.b9, (hg g10 (by simp)).trans hLB14.b10, (hg g11 (by simp)).trans hLB14.b11⟩
  have hB14 : Below w.heap.size w w14 := below_step (below_step HB3.out HBr.out) hbr14
  have hB15 : Below w.heap.size w w15 := keep_below hB14 hk15 (HLO.out g6 (by simp))
  have hTB15 : TBlk w15 b9 TLeast py 29 := hk15.1.blk hTB14 (by have := HNr.out; omega) (by simp)
  have hTBx15 : TBlk w15 b1 (TLa ⟨1, 0⟩) (pL g2 g3 g7 g9 g10 g11) 29 := hk15.1.blk hTBx14 (by have := HZ1.out; omega) (by simp)
  have hty15 := (hty14.keep hk15.1 (by have := HNr.out; omega)).tab
  have HL15 := Aside0.mk hLB15
  have HT15 := Aside0.mk hty15
  have HB15 := Aside0.mk hB15
  have HTA := Aside0.mk hTB15
  have HTX := Aside0.mk hTBx15
  clear hk15 hb6n hg hLB15 hLB14 hB14 hB15 hTBx14 hty14 hTB14 hbr14 hty15 x1 x2 y0 y1 z0 z1 hTB15 hTBx15
  refine start_ (n := 13) (S := fun w' => w'.heap[b9]? = some (.cells (tcells TLeast py).toArray 29 (0, 0)) ∧ w'.heap[b1]? = some (.cells (tcells (TLa ⟨1, 0⟩) (pL g2 g3 g7 g9 g10 g11)).toArray 29 (0, 0))) (ds := []) #[false, false, false, false, false, false, false, false, false, false, false, false, false] (by kernel_rfl) rfl rfl ⟨HTA.out, HTX.out⟩ (fun hHeld => ?_)
  generalize HW : w15.drew = w16 at hHeld ⊢
  have hb16 : Below w15.heap.size w15 w16 := by rw [← HW]; exact below_drew (Below.refl _ _)
  clear HW
  refine pure_ (i := 0) (N := some 82) (v := ?_) (a' := ?_) #[true, false, false, false, false, false, false, false, false, false, false, false, false] rfl rfl (by kernel_rfl) (fun _ _ _ h => h) (Or.inl ⟨by rfl, ?_⟩) ?_ ?_
  rotate_left
  · intro w'
    go_simp
    with_reducible rfl
  rotate_left
  · simp only [Act.put, List.setIfInBounds_toArray, List.set_cons_zero, List.set_cons_succ, i64_w, i32_w]
    rfl
  refine pure_ (i := 1) (N := some 83) (v := ?_) (a' := ?_) #[true, true, false, false, false, false, false, false, false, false, false, false, false] rfl rfl (by kernel_rfl) (fun _ _ _ h => h) (Or.inl ⟨by rfl, ?_⟩) ?_ ?_
  rotate_left
  · intro w'
    go_simp
    with_reducible rfl
  rotate_left
  · simp only [Act.put, List.setIfInBounds_toArray, List.set_cons_zero, List.set_cons_succ, i64_w, i32_w]
    rfl
  refine pure_ (i := 2) (N := some 84) (v := ?_) (a' := ?_) #[true, true, true, false, false, false, false, false, false, false, false, false, false] rfl rfl (by kernel_rfl) (fun _ _ _ h => h) (Or.inl ⟨by rfl, ?_⟩) ?_ ?_
  rotate_left
  · intro w'
    go_simp
    with_reducible rfl
  rotate_left
  · simp only [Act.put, List.setIfInBounds_toArray, List.set_cons_zero, List.set_cons_succ, i64_w, i32_w]
    rfl
  refine take_ (i := 3) (N := some 85) (v := ?_) (a' := ?_) #[true, true, true, true, false, false, false, false, false, false, false, false, false] rfl rfl (by kernel_rfl) (fun _ _ _ h => h) (Or.inl ⟨by rfl, ?_⟩) hHeld ?_ ?_
  rotate_left
  · rintro w' ⟨s0, s1⟩
    refine Eq.trans (exec_load29 (x := .tmp 9) (T := TLeast) (p := py) (by rfl) (by rfl) s0 TLeast_cls) ?_
    with_reducible rfl
  rotate_left
  · simp only [Act.put, List.setIfInBounds_toArray, List.set_cons_zero, List.set_cons_succ, i64_w, i32_w]
    rfl
  refine one_ (i := 4) (N := some 86) #[true, true, true, true, true, false, false, false, false, false, false, false, false] rfl rfl (by kernel_rfl) (by decide) (fun K hK => ?_)
  refine goes_ Try.func15 (by kernel_rfl) rfl #[] (by rfl) rfl rfl (by simp only [List.map_toArray, List.map_nil]) ?_
  with_reducible refine (Least_calls w16).mono ?_
  rintro e w17 ⟨h1, h2, h3, h6, h7, h8, h9, h10, h11, rfl, hLB17, _, _, hb17⟩
  refine ⟨_, rfl, ?_⟩
  refine hK.out _ _ ⟨(blk_below hHeld.1 hb17), (blk_below hHeld.2 hb17)⟩ (fun hHeld => ?_)
  clear hK K
  refine norm_ (a' := ?_) ?_ ?_
  rotate_left
  · show Act.put _ (some 86) _ = _
    simp only [Act.put, List.setIfInBounds_toArray, List.set_cons_zero, List.set_cons_succ, i64_w, i32_w]
    rfl
  refine one_ (i := 5) (N := some 87) #[true, true, true, true, true, true, false, false, false, false, false, false, false] rfl rfl (by kernel_rfl) (by decide) (fun K hK => ?_)
  refine goes_ Try.func11 (by kernel_rfl) rfl #[.agg (tcells TLeast py).toArray, .agg (tcells TLeast (pL h2 h3 h7 h9 h10 h11)).toArray] (by rfl) rfl rfl (by simp only [List.map_toArray, List.map_cons, List.map_nil]; rfl) ?_
  with_reducible refine (Same_calls TLeast TLeast py (pL h2 h3 h7 h9 h10 h11) w17 (HT15.out.below (below_step hb16 hb17)) hLB17.least TLeast_small TLeast_small).mono ?_
  rintro e w18 ⟨r, rfl, hr, hb18⟩
  obtain rfl : r = true := hr.2 rfl
  clear hr
  refine ⟨_, rfl, ?_⟩
  refine hK.out _ _ ⟨(blk_below hHeld.1 hb18), (blk_below hHeld.2 hb18)⟩ (fun hHeld => ?_)
  clear hK K
  refine norm_ (a' := ?_) ?_ ?_
  rotate_left
  · show Act.put _ (some 87) _ = _
    simp only [Act.put, List.setIfInBounds_toArray, List.set_cons_zero, List.set_cons_succ, i64_w, i32_w]
    rfl
  refine pure_ (i := 6) (N := some 88) (v := ?_) (a' := ?_) #[true, true, true, true, true, true, true, false, false, false, false, false, false] rfl rfl (by kernel_rfl) (fun _ _ _ h => h) (Or.inl ⟨by rfl, ?_⟩) ?_ ?_
  rotate_left
  · intro w'
    go_simp
    with_reducible rfl
  rotate_left
  · simp only [Act.put, List.setIfInBounds_toArray, List.set_cons_zero, List.set_cons_succ, i64_w, i32_w]
    rfl
  refine pure_ (i := 7) (N := some 89) (v := ?_) (a' := ?_) #[true, true, true, true, true, true, true, true, false, false, false, false, false] rfl rfl (by kernel_rfl) (fun _ _ _ h => h) (Or.inl ⟨by rfl, ?_⟩) ?_ ?_
  rotate_left
  · intro w'
    go_simp
    with_reducible rfl
  rotate_left
  · simp only [Act.put, List.setIfInBounds_toArray, List.set_cons_zero, List.set_cons_succ, i64_w, i32_w]
    rfl
  refine take_ (i := 8) (N := some 90) (v := ?_) (a' := ?_) #[true, true, true, true, true, true, true, true, true, false, false, false, false] rfl rfl (by kernel_rfl) (fun _ _ _ h => h) (Or.inl ⟨by rfl, ?_⟩) hHeld ?_ ?_
  rotate_left
  · rintro w' ⟨s0, s1⟩
    refine Eq.trans (exec_load29 (x := .tmp 1) (T := (TLa ⟨1, 0⟩)) (p := (pL g2 g3 g7 g9 g10 g11)) (by rfl) (by rfl) s1 TLeast_cls) ?_
    with_reducible rfl
  rotate_left
  · simp only [Act.put, List.setIfInBounds_toArray, List.set_cons_zero, List.set_cons_succ, i64_w, i32_w]
    rfl
  refine one_ (i := 9) (N := some 91) #[true, true, true, true, true, true, true, true, true, true, false, false, false] rfl rfl (by kernel_rfl) (by decide) (fun K hK => ?_)
  refine goes_ Try.func13 (by kernel_rfl) rfl #[.agg (tcells (TLa ⟨1, 0⟩) (pL g2 g3 g7 g9 g10 g11)).toArray] (by rfl) rfl rfl (by simp only [List.map_toArray, List.map_cons, List.map_nil]; rfl) ?_
  have hmb : (if mayB (TLa ⟨1, 0⟩) = true then (0 : Int) else 220) = 220 := if_neg (by rw [mayB_bad]; decide)
  with_reducible refine (Check_calls (TLa ⟨1, 0⟩) (pL g2 g3 g7 g9 g10 g11) w18 (HL15.out.tab.below (below_step (below_step hb16 hb17) hb18)) tla_n tla_u tla_t).mono ?_
  rintro e w19 ⟨he, hb19⟩
  rw [hmb] at he
  subst he
  refine ⟨_, rfl, ?_⟩
  refine hK.out _ _ ⟨(blk_below hHeld.1 hb19), (blk_below hHeld.2 hb19)⟩ (fun hHeld => ?_)
  clear hK K
  refine norm_ (a' := ?_) ?_ ?_
  rotate_left
  · show Act.put _ (some 91) _ = _
    simp only [Act.put, List.setIfInBounds_toArray, List.set_cons_zero, List.set_cons_succ, i64_w, i32_w]
    rfl
  refine pure_ (i := 10) (N := some 92) (v := ?_) (a' := ?_) #[true, true, true, true, true, true, true, true, true, true, true, false, false] rfl rfl (by kernel_rfl) (fun _ _ _ h => h) (Or.inl ⟨by rfl, ?_⟩) ?_ ?_
  rotate_left
  · intro w'
    go_simp
    with_reducible rfl
  rotate_left
  · simp only [Act.put, List.setIfInBounds_toArray, List.set_cons_zero, List.set_cons_succ, i64_w, i32_w]
    rfl
  refine pure_ (i := 11) (N := some 93) (v := ?_) (a' := ?_) #[true, true, true, true, true, true, true, true, true, true, true, true, false] rfl rfl (by kernel_rfl) (fun _ _ _ h => h) (Or.inl ⟨by rfl, ?_⟩) ?_ ?_
  rotate_left
  · intro w'
    go_simp
    with_reducible rfl
  rotate_left
  · simp only [Act.put, List.setIfInBounds_toArray, List.set_cons_zero, List.set_cons_succ, i64_w, i32_w]
    rfl
  refine pure_ (i := 12) (N := some 0) (v := ?_) (a' := ?_) #[true, true, true, true, true, true, true, true, true, true, true, true, true] rfl rfl (by kernel_rfl) (fun _ _ _ h => h) (Or.inl ⟨by rfl, ?_⟩) ?_ ?_
  rotate_left
  · intro w'
    go_simp
    with_reducible rfl
  rotate_left
  · simp only [Act.put, List.setIfInBounds_toArray, List.set_cons_zero, List.set_cons_succ, i64_w, i32_w]
    rfl
  refine done_ (by kernel_rfl) ?_
  have hB16 := below_step (below_step (below_step (below_step HB15.out hb16) hb17) hb18) hb19
  clear hHeld
  go_wp2_with (fail)
  go_ret
  exact ⟨rfl, hB16⟩
end Go.Proofs.Ytkeekganabafbaa.X
end
