import Derived.Test.YtkeekganabafbaaXJTu7
import Derived.Test.YtkeekganabafbaaXJTu1
/- Texts of this claim, joined. -/
section
namespace Go.Proofs.Ytkeekganabafbaa.X
open Go.RowKit Go.Proofs.YtkeekganabafbaaW.PrintWords Go.Proofs.YtkeekganabafbaaW.PrintLast Go.Proofs.YtkeekganabafbaaW.PrintMore Go.Proofs.Ytkeekganabafbaa.Pure
attribute [local go_sem] max2_int min2_int max_two min_two max_three min_three max_four min_four
set_option linter.unusedVariables false
set_option linter.unusedSimpArgs false
theorem unpack_n (b : List Int) (A : Option Addr) (n c : Nat) (w : World) (hn : b.length = n) (hl : n ≤ 9223372036854775800) (hB : BI b) (hC : CB w A n b) (hc : n ≤ c) :
    Calls Try.prog 22 #[.slice A n c] w fun e w' => ∃ A1 c1, e = .returned (.tuple #[.int .i64 (unpackI b).1, .slice A1 (unpackI b).2.1.length c1, .int .i64 (unpackI b).2.2]) ∧ (unpackI b).2.1.length ≤ c1 ∧ Kd.C k48 w' A1 (unpackI b).2.1.length (unpackI b).2.1 ∧ Below w.heap.size w w' := by
  subst hn
  obtain ⟨k, hk⟩ := (unpack_ev b hB hl).rounds
  refine (pack_Unpack.calls k A c b _ _ _ w hC hc hk).mono ?_
  rintro e w' ⟨v, rfl, hS, hb⟩
  obtain ⟨A1, c1, rfl, h1, h2⟩ := Kd.R_reads (Kd.S_R hS)
  exact ⟨A1, c1, rfl, h1, h2, hb⟩
theorem unpackI_small (b : List Int) (hB : BI b) (k : Int) (l : List S48) (h : unpackI b = (k, l, 0)) : OKs l ∧ small l := by
  obtain ⟨h1, h2, _⟩ := pack_unpackI b hB k l h
  exact ⟨h2, (packI_ok k l b h1).2.2.1⟩
theorem T0_tab (W : World) (ok : Nat → Prop) : LT W ok T0 P0 := LT.nil W ok T0_cls rfl rfl
set_option maxHeartbeats 16000000 in
set_option maxRecDepth 100000 in
theorem Parse_calls (b : List Int) (A : Option Addr) (n c : Nat) (w : World) (hn : b.length = n) (hl : n ≤ 9223372036854775800) (hB : BI b) (hC : CB w A n b) (hc : n ≤ c) :
    Calls Try.prog 17 #[.slice A n c] w fun e w' => ∃ p, e = .returned (.tuple #[.agg (tcells (parseI b).1 p).toArray, .int .i64 (parseI b).2]) ∧ (parseI b).1.cls.length = 256 ∧ LT w' (fun k => w.heap.size ≤ k) (parseI b).1 p ∧ Below w.heap.size w w' := by
  obtain ⟨k, l, e, hu_⟩ : ∃ k l e, unpackI b = (k, l, e) := ⟨_, _, _, rfl⟩
  have HU := Aside0.mk hu_
  have HC := Aside0.mk hC
  have HB := Aside0.mk hB
  have HL := Aside0.mk hl
  have HCC := Aside0.mk hc
  have HN := Aside0.mk hn
  clear hu_ hC hB hl hc hn
  go_enter Try.func17, Try.ntmps17
  go_upto_region 2 with (first | ((with_reducible refine gate_dst (N := 2) rfl ?_); refine box_event ?hg (N := 2) ?hd (cs := (tcells T0 P0).toArray) (t := 29) ?hr ?_; (case hd => rfl); (case hg => rfl); (case hr => rw [← zc29]; simp [execOp, go_sem]); intro b0 hg w1 hTB1 hb1; have hz0 : w.heap.size ≤ b0 := Nat.le_of_eq hg.symm; clear hg) | (go_at_call 22; refine (unpack_n b A n c _ HN.out HL.out HB.out (Kd.C_below HC.out hb1) HCC.out).mono ?_; rintro e' w2 ⟨A1, c1, rfl, hcl2, hCl2, hb2⟩; rw [HU.out] at hcl2 hCl2; simp only [HU.out]))
  obtain ⟨hbx, hb, hcl, hCl⟩ : TBlk w2 b0 T0 P0 29 ∧ Below w.heap.size w w2 ∧ l.length ≤ c1 ∧ Kd.C k48 w2 A1 l.length l := ⟨blk_below hTB1 hb2, below_step hb1 hb2, hcl2, hCl2⟩
  have HBX := Aside0.mk hbx
  have hB := Aside0.mk hb
  have HCL := Aside0.mk hcl
  have HCR := Aside0.mk hCl
  have HZ0 := Aside0.mk hz0
  clear hTB1 hb1 hb2 hcl2 hCl2 hbx hb hcl hCl hz0
  by_cases he : e = 0
  · subst he
    have HS := Aside0.mk (unpackI_small b HB.out k l HU.out)
    by_cases hk : k = 1
    · subst hk
      by_cases h8 : l.length = 8
      · have HL8 := Aside0.mk h8
        rw [h8] at HCL HCR ⊢
        clear h8
        obtain ⟨ad, Ax, cx, ea, hx0_, hx1_, hlx, hCx⟩ := at_T48 HCR.out 7 (by decide) (by decide)
        subst ea
        have hx0 := hx0_
        simp only [show (7 : Int).toNat * 2 = 14 from rfl] at hx0
        rw [show ad.add 14 = ⟨ad.block, ad.off + 14, none⟩ from rfl] at hx0
        have HT := Aside0.mk (show (rd_T48 l 7).f0 = (l.getD 7 ⟨0, []⟩).f0 from rfl)
        clear hx0_ hx1_ hlx hCx
        generalize (rd_T48 l 7).f0 = tg at hx0 HT
        by_cases ht : tg = 8
        · subst ht
          go_upto_region 6 with (fail)
          clear hx0
          rcases hrb : readB l with _ | _
          · have HRB := Aside0.mk hrb
            have HPI := Aside0.mk (show parseI b = (T0, 220) from by unfold parseI; rw [HU.out, if_pos rfl, if_neg (fun h => by rw [HRB.out] at h; exact absurd h.2.2.2 (by decide))])
            clear hrb
            go_upto_region 7 with (first | (go_at_call 38; refine (read_calls l (some ad) c1 w2 HCR.out HCL.out HS.out.1 (fun s hs => by have := HS.out.2 s hs; omega)).mono ?_; rintro e' w3 ⟨T, p, rfl, hcT, hrd, hb3⟩; rw [HRB.out]; have htb3 : TBlk w3 b0 T0 P0 29 := blk_below HBX.out hb3; have hB3 := below_step hB.out hb3) | ((with_reducible refine gate_dst (N := 7) rfl ?_); refine box_event ?hg (N := 7) ?hd (cs := (tcells T0 P0).toArray) (t := 29) ?hr ?_; (case hd => rfl); (case hg => rfl); (case hr => rw [← zc29]; simp [execOp, go_sem]); intro g7 hg w4 hTB4 hb4; have hz7 : w3.heap.size ≤ g7 := Nat.le_of_eq hg.symm; clear hg) | (refine wpList_store_row rfl 29 (.tmp 7) (.tmp 37) rfl g7 (tcells T p).toArray rfl rfl 29 (tcells T0 P0).toArray hTB4 (sizeT hcT) ((tsz T0_cls).trans (tsz hcT).symm) (tcells_one _ _) ?_))
            have hT5 : TBlk (w4.setRow g7 (tcells T p).toArray) g7 T p 29 := setRow_heap w4 g7 _ _ 29 (0, 0) hTB4
            have hkk := row_kb w4 g7 (tcells T p).toArray
            have hb35 : Below w3.heap.size w3 (w4.setRow g7 (tcells T p).toArray) := keep_below hb4 hkk hz7
            generalize w4.setRow g7 (tcells T p).toArray = w5 at hT5 hb35 ⊢
            have htb5 : TBlk w5 b0 T0 P0 29 := blk_below htb3 hb35
            have hB5 := Aside0.mk (below_step hB3 hb35)
            have h07 : b0 ≠ g7 := by have := blk_lt htb3; omega
            clear hTB4 hb4 hkk htb3 hB3
            go_wp2_with (first | (refine wpList_store_row rfl 29 (.tmp 2) (.tmp 41) rfl b0 Try.zeroCells29 rfl rfl 29 (tcells T0 P0).toArray htb5 (by rw [zc29]; exact sizeT T0_cls) ((tsz T0_cls).trans zcs.symm) (by rw [zc29]; exact tcells_one _ _) ?_; rw [zc29]; obtain ⟨hT9, hb9⟩ := row_set htb5 hB5.out HZ0.out (tcells T0 P0).toArray; generalize w5.setRow b0 (tcells T0 P0).toArray = w9 at hT9 hb9 ⊢))
            refine bodyPost_ret (results_ct rfl _ _ b0 29 (tcells T0 P0).toArray (0, 0) _ rfl hT9 Try.underlying29 rfl (sizeT T0_cls)) rfl ?_
            rw [HPI.out]
            exact ⟨P0, rfl, T0_cls, T0_tab _ _, hb9⟩
          have HRB := Aside0.mk hrb
          have HPI := Aside0.mk (show parseI b = (tabI l, 0) from by unfold parseI; rw [HU.out, if_pos rfl, if_pos ⟨rfl, HL8.out, HT.out.symm, HRB.out⟩])
          clear hrb
          go_upto_region 7 with (first | (go_at_call 38; refine (read_calls l (some ad) c1 w2 HCR.out HCL.out HS.out.1 (fun s hs => by have := HS.out.2 s hs; omega)).mono ?_; rintro e' w3 ⟨T, p, rfl, hcT, hrd, hb3⟩; rw [HRB.out]; have htb3 : TBlk w3 b0 T0 P0 29 := blk_below HBX.out hb3; have hB3 := below_step hB.out hb3) | ((with_reducible refine gate_dst (N := 7) rfl ?_); refine box_event ?hg (N := 7) ?hd (cs := (tcells T0 P0).toArray) (t := 29) ?hr ?_; (case hd => rfl); (case hg => rfl); (case hr => rw [← zc29]; simp [execOp, go_sem]); intro g7 hg w4 hTB4 hb4; have hz7 : w3.heap.size ≤ g7 := Nat.le_of_eq hg.symm; clear hg) | (refine wpList_store_row rfl 29 (.tmp 7) (.tmp 37) rfl g7 (tcells T p).toArray rfl rfl 29 (tcells T0 P0).toArray hTB4 (sizeT hcT) ((tsz T0_cls).trans (tsz hcT).symm) (tcells_one _ _) ?_))
          have hT5 : TBlk (w4.setRow g7 (tcells T p).toArray) g7 T p 29 := setRow_heap w4 g7 _ _ 29 (0, 0) hTB4
          have hkk := row_kb w4 g7 (tcells T p).toArray
          have hb35 : Below w3.heap.size w3 (w4.setRow g7 (tcells T p).toArray) := keep_below hb4 hkk hz7
          generalize w4.setRow g7 (tcells T p).toArray = w5 at hT5 hb35 ⊢
          have htb5 : TBlk w5 b0 T0 P0 29 := blk_below htb3 hb35
          have hB5 := Aside0.mk (below_step hB3 hb35)
          have h07 : b0 ≠ g7 := by have := blk_lt htb3; omega
          clear hTB4 hb4 hkk htb3 hB3
          obtain ⟨hTe, htab⟩ := hrd HRB.out
          subst hTe
          have htab5 := htab.step (fun k _ hlt => hb35.block k hlt)
          have hlt0 : b0 < w2.heap.size := blk_lt HBX.out
          have hw2 := hB.out.size
          clear hrd htab
          go_wp2_with (first | ((with_reducible refine gate_dst (N := 42) rfl ?_); refine wpList_load_mid rfl 29 (.tmp 7) rfl g7 0 rfl (tcells (tabI l) p) _ (TBlk.rangeT hT5) Try.underlying29 rfl (by rw [tcells_length hcT]; exact size29) ?_) | (refine wpList_store_row rfl 29 (.tmp 2) (.tmp 42) rfl b0 (tcells (tabI l) p).toArray rfl rfl 29 (tcells T0 P0).toArray htb5 (sizeT hcT) ((tsz T0_cls).trans (tsz hcT).symm) (tcells_one _ _) ?_; obtain ⟨hT9, hb9⟩ := row_set htb5 hB5.out HZ0.out (tcells (tabI l) p).toArray; have htab9 := (htab5.keep (row_kb w5 b0 (tcells (tabI l) p).toArray).1 hlt0).mono (ok' := fun k => w.heap.size ≤ k) (fun k hk _ => Nat.le_trans hw2 hk); generalize w5.setRow b0 (tcells (tabI l) p).toArray = w9 at hT9 hb9 htab9 ⊢))
          refine bodyPost_ret (results_ct rfl _ _ b0 29 (tcells (tabI l) p).toArray (0, 0) _ rfl hT9 Try.underlying29 rfl (sizeT hcT)) rfl ?_
          rw [HPI.out]
          exact ⟨p, rfl, hcT, htab9, hb9⟩
        have HPI := Aside0.mk (show parseI b = (T0, 220) from by unfold parseI; rw [HU.out, if_pos rfl, if_neg (fun h => ht (HT.out.trans h.2.2.1))])
        have f1 : (tg = 8) = False := eq_false ht
        have f2 : decide (tg = 8) = false := decide_eq_false ht
        have f3 : (tg == 8) = false := beq_eq_false_iff_ne.mpr ht
        go_wp2_with (first | (refine wpList_store_row rfl 29 (.tmp 2) (.tmp 33) rfl b0 Try.zeroCells29 rfl rfl 29 (tcells T0 P0).toArray HBX.out (by rw [zc29]; exact sizeT T0_cls) ((tsz T0_cls).trans zcs.symm) (by rw [zc29]; exact tcells_one _ _) ?_; rw [zc29]; obtain ⟨hT9, hb9⟩ := row_set HBX.out hB.out HZ0.out (tcells T0 P0).toArray; generalize w2.setRow b0 (tcells T0 P0).toArray = w9 at hT9 hb9 ⊢))
        refine bodyPost_ret (results_ct rfl _ _ b0 29 (tcells T0 P0).toArray (0, 0) _ rfl hT9 Try.underlying29 rfl (sizeT T0_cls)) rfl ?_
        rw [HPI.out]
        exact ⟨P0, rfl, T0_cls, T0_tab _ _, hb9⟩
      have HPI := Aside0.mk (show parseI b = (T0, 220) from by unfold parseI; rw [HU.out, if_pos rfl, if_neg (fun h => h8 h.2.1)])
      have f0 : (l.length = 8) = False := eq_false h8
      have f1 : ((l.length : Int) = 8) = False := eq_false (by omega)
      have f2 : decide ((l.length : Int) = 8) = false := decide_eq_false (by omega)
      have f3 : ((l.length : Int) == 8) = false := beq_eq_false_iff_ne.mpr (by omega)
      go_wp2_with (first | (refine wpList_store_row rfl 29 (.tmp 2) (.tmp 33) rfl b0 Try.zeroCells29 rfl rfl 29 (tcells T0 P0).toArray HBX.out (by rw [zc29]; exact sizeT T0_cls) ((tsz T0_cls).trans zcs.symm) (by rw [zc29]; exact tcells_one _ _) ?_; rw [zc29]; obtain ⟨hT9, hb9⟩ := row_set HBX.out hB.out HZ0.out (tcells T0 P0).toArray; generalize w2.setRow b0 (tcells T0 P0).toArray = w9 at hT9 hb9 ⊢))
      refine bodyPost_ret (results_ct rfl _ _ b0 29 (tcells T0 P0).toArray (0, 0) _ rfl hT9 Try.underlying29 rfl (sizeT T0_cls)) rfl ?_
      rw [HPI.out]
      exact ⟨P0, rfl, T0_cls, T0_tab _ _, hb9⟩
    have HPI := Aside0.mk (show parseI b = (T0, 220) from by unfold parseI; rw [HU.out, if_pos rfl, if_neg (fun h => hk h.1)])
    have f1 : (k = 1) = False := eq_false hk
    have f2 : decide (k = 1) = false := decide_eq_false hk
    have f3 : (k == 1) = false := beq_eq_false_iff_ne.mpr hk
    go_wp2_with (first | (refine wpList_store_row rfl 29 (.tmp 2) (.tmp 33) rfl b0 Try.zeroCells29 rfl rfl 29 (tcells T0 P0).toArray HBX.out (by rw [zc29]; exact sizeT T0_cls) ((tsz T0_cls).trans zcs.symm) (by rw [zc29]; exact tcells_one _ _) ?_; rw [zc29]; obtain ⟨hT9, hb9⟩ := row_set HBX.out hB.out HZ0.out (tcells T0 P0).toArray; generalize w2.setRow b0 (tcells T0 P0).toArray = w9 at hT9 hb9 ⊢))
    refine bodyPost_ret (results_ct rfl _ _ b0 29 (tcells T0 P0).toArray (0, 0) _ rfl hT9 Try.underlying29 rfl (sizeT T0_cls)) rfl ?_
    rw [HPI.out]
    exact ⟨P0, rfl, T0_cls, T0_tab _ _, hb9⟩
  have HPI := Aside0.mk (show parseI b = (T0, e) from by unfold parseI; rw [HU.out, if_neg he])
  have f1 : (e = 0) = False := eq_false he
  have f2 : decide (e = 0) = false := decide_eq_false he
  have f3 : (e == 0) = false := beq_eq_false_iff_ne.mpr he
  go_wp2_with (first | (refine wpList_store_row rfl 29 (.tmp 2) (.tmp 17) rfl b0 Try.zeroCells29 rfl rfl 29 (tcells T0 P0).toArray HBX.out (by rw [zc29]; exact sizeT T0_cls) ((tsz T0_cls).trans zcs.symm) (by rw [zc29]; exact tcells_one _ _) ?_; rw [zc29]; obtain ⟨hT9, hb9⟩ := row_set HBX.out hB.out HZ0.out (tcells T0 P0).toArray; generalize w2.setRow b0 (tcells T0 P0).toArray = w9 at hT9 hb9 ⊢))
  refine bodyPost_ret (results_ct rfl _ _ b0 29 (tcells T0 P0).toArray (0, 0) _ rfl hT9 Try.underlying29 rfl (sizeT T0_cls)) rfl ?_
  rw [HPI.out]
  exact ⟨P0, rfl, T0_cls, T0_tab _ _, hb9⟩
end Go.Proofs.Ytkeekganabafbaa.X
end
