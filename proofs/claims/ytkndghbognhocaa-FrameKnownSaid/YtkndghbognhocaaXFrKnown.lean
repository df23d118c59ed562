/- FrameKnown. -/
import Derived.Test.YtkndghbognhocaaXFrKn1
import Derived.Test.YtkndghbognhocaaXx0
namespace Go.Proofs.Ytkndghbognhocaa.X
open Go.RowKit Go.Proofs.YtkndghbognhocaaW.PrintWords Go.Proofs.YtkndghbognhocaaW.PrintLast Go.Proofs.YtkndghbognhocaaW.PrintMore Go.Proofs.Ytkndghbognhocaa.Pure
attribute [local go_sem] max2_int min2_int max_two min_two max_three min_three max_four min_four
set_option linter.unusedVariables false
set_option linter.unusedSimpArgs false
def incunablelaw28_FrameKnown.f (k : Nat) : Option Bool := some true
set_option maxHeartbeats 16000000 in
set_option maxRecDepth 100000 in
theorem incunablelaw28_FrameKnown.calls (k : Nat) (r : Bool) (w : World) (h : incunablelaw28_FrameKnown.f k = some r) :
    Calls Try.prog 9 #[] w fun e w' => e = .returned (.bool r) ∧ Below w.heap.size w w' := by
  unfold incunablelaw28_FrameKnown.f at h
  injection h with h
  subst h
  have HB0 := Aside0.mk (Below.refl w.heap.size w)
  have HI0 := Aside0.mk (show Isnt none w from frame_Reader_none.calls_nil w)
  go_enter Try.func9, Try.ntmps9
  go_wp2
  go_loopg [1, 2] 3 (fun kq v1 v2 w' => ∃ (i : Int) (p : Option Addr), v1 = .pointer p ∧ v2 = .int .i64 i ∧ Aside0 (0 ≤ i) ∧ Aside0 (i ≤ 2) ∧ Aside0 ((kq : Int) + i = 3) ∧ Aside0 (Isnt p w') ∧ Aside0 (Below w.heap.size w w'))
  case atStart => exact ⟨0, none, rfl, rfl, ⟨by decide⟩, ⟨by decide⟩, ⟨by decide⟩, HI0, HB0⟩
  case round =>
    obtain ⟨i, p, rfl, rfl, hi0, hi2, hk, hI, hB⟩ := hrel
    clear HB0 HI0
    have hkk := hk.out
    by_cases hc : i < 2
    · have d1 : decide (i < 2) = true := decide_eq_true hc
      have hwi : IntKind.i64.wrap (i + 1) = i + 1 := by have := hi0.out; simp only [i64_w]; unfold wrap64; omega
      have HC := Aside0.mk hc
      clear hc
      go_wp2_with (first | (go_at_call 20; refine (Next_none p _ hI.out).mono ?_; rintro e w1 ⟨rfl, rfl⟩) | (go_at_call 17; refine (Feed_none p none 0 0 _ hI.out).mono ?_; rintro e w1 ⟨rfl, rfl⟩) | (go_at_call 22; refine (Waits_none p _ hI.out).mono ?_; rintro e w1 ⟨rfl, rfl⟩) | ((with_reducible refine gate_dst (N := 45) rfl ?_); refine box_event ?hg (N := 45) ?hd (cs := #[.bool false, .slice none 0 0, .bool false]) (t := 55) ?hr ?_; (case hd => rfl); (case hg => rfl); (case hr => first | (go_simp; done) | (go_simp; rfl)); intro gb hg w1 hbox hb))
      go_roundg (gk - 1)
      case measure => have := HC.out; have := hi0.out; omega
      case rel => exact ⟨i + 1, some ⟨gb, 0, none⟩, (by rw [hg]), rfl, ⟨by have := hi0.out; omega⟩, ⟨by have := HC.out; omega⟩, ⟨by have := HC.out; omega⟩, ⟨frame_Reader_none.calls gb false false _ _ hbox⟩, ⟨below_step hB.out hb⟩⟩
    · have d1 : decide (i < 2) = false := decide_eq_false hc
      clear hk hkk hI hi0 hi2
      go_upto_region 10 with (first | ((with_reducible refine gate_dst (N := 46) rfl ?_); refine Kd.R_make (Kd.int .u8) (w0 := _) _ 5 rfl (N := 46) rfl 22 _ _ rfl 300001 rfl rfl Try.underlying22 (.int .u8 0) 1 info5 rfl (by decide) (by omega) 0 (ok := fun _ => True) (okp := fun _ => True) rfl (fun _ hk => hk) trivial (by omega) (by omega) (Below.refl _ _) (Nat.le_refl _) ?_; intro v2 w2 hR2 hb2 _ _))
      obtain ⟨Z, hZ⟩ : ∃ Z, Z = List.replicate (300001 : Int).toNat (0 : Int) := ⟨_, rfl⟩
      rw [← hZ] at hR2
      have hZl : Z.length = 300001 := by rw [hZ, List.length_replicate]; rfl
      have hZB : BI Z := by rw [hZ]; intro x hx; rw [List.eq_of_mem_replicate hx]; decide
      obtain ⟨A2, c2, e2⟩ := Kd.R_slice hR2
      rw [hZl] at e2
      subst e2
      have hB2 := below_step hB.out hb2
      have hC2 := (RC hR2).2.1
      have hc2 := (RC hR2).2.2
      obtain ⟨hcut, hCt⟩ := CBn_to A2 c2 Z 300001 300000 hZl (by omega) hc2
      have hcut' : ∀ W, (Instr.slice 22 (.slice A2 300001 c2) none (some (.int .i64 300000)) none).run Try.prog W = .ok (.slice A2 300000 c2) W := hcut
      obtain ⟨X, hX⟩ : ∃ X, X = Z.take 300000 := ⟨_, rfl⟩
      have hXl : X.length = 300000 := by rw [hX, List.length_take, hZl]; rfl
      have hXB : BI X := by rw [hX]; exact BI_take hZB _
      rw [← hX] at hCt
      obtain ⟨F, hF⟩ : ∃ F, F = frameL X := ⟨_, rfl⟩
      have hFl : F.length = 300013 := by rw [hF, frameL_length, hXl]
      have hFB : BI F := by rw [hF]; exact frameL_BI hXB
      have h3 := three_frames X (by omega)
      rw [← hF] at h3
      obtain ⟨L1, hL1⟩ : ∃ L1, L1 = [] ++ F := ⟨_, rfl⟩
      obtain ⟨L2, hL2⟩ : ∃ L2, L2 = L1 ++ F := ⟨_, rfl⟩
      obtain ⟨L3, hL3⟩ : ∃ L3, L3 = L2 ++ F := ⟨_, rfl⟩
      rw [← hL1, ← hL2, ← hL3] at h3
      have l1 : L1.length = 300013 := by rw [hL1, List.nil_append, hFl]
      have l2 : L2.length = 600026 := by rw [hL2, List.length_append, l1, hFl]
      have l3 : L3.length = 900039 := by rw [hL3, List.length_append, l2, hFl]
      have LL1 := Aside0.mk l1
      have LL2 := Aside0.mk l2
      have LL3 := Aside0.mk l3
      have HFB := Aside0.mk hFB
      have BL3 := Aside0.mk (show BI L3 from by rw [hL3, hL2, hL1]; exact BI_append (BI_append (BI_append BI_nil hFB) hFB) hFB)
      have E1 := Aside0.mk (show (if ([] : List Int).length + F.length ≤ 1048576 then [] ++ F else []) = L1 from by rw [if_pos (by rw [hFl]; decide), hL1])
      have X1 := Aside0.mk (show (if ([] : List Int).length + F.length ≤ 1048576 then (0 : Int) else 5) = 0 from if_pos (by rw [hFl]; decide))
      have E2 := Aside0.mk (show (if L1.length + F.length ≤ 1048576 then L1 ++ F else L1) = L2 from by rw [if_pos (by rw [hFl, l1]; decide), hL2])
      have X2 := Aside0.mk (show (if L1.length + F.length ≤ 1048576 then (0 : Int) else 5) = 0 from if_pos (by rw [hFl, l1]; decide))
      have E3 := Aside0.mk (show (if L2.length + F.length ≤ 1048576 then L2 ++ F else L2) = L3 from by rw [if_pos (by rw [hFl, l2]; decide), hL3])
      have X3 := Aside0.mk (show (if L2.length + F.length ≤ 1048576 then (0 : Int) else 5) = 0 from if_pos (by rw [hFl, l2]; decide))
      have H3 := Aside0.mk h3
      have HFL := Aside0.mk hFl
      have HXL := Aside0.mk hXl
      have HZL := Aside0.mk hZl
      clear hZ hX hL1 hL2 hL3 l1 l2 l3 h3 hFl hXl hZl hFB hcut
      have HF := Aside0.mk hF
      clear hF
      go_upto_region 13 with (first | (have g_ := hb3; clear g_; go_at_call 11; refine (Frame_okn X hXB A2 300000 c2 _ HXL.out (hCt _ (Kd.C_below hC2 hb3)) (by omega) (by omega)).mono ?_; rintro e w4 ⟨v4, rfl, hR4, hb4⟩; rw [← HF.out] at hR4; obtain ⟨A4, c4, e4⟩ := Kd.R_slice hR4; rw [HFL.out] at e4; subst e4; have hB3 := below_step hB2 hb3; have hB4 := below_step hB3 hb4; have s4 := Sep.addB (w := w) (Sep.nil _) hB3 hb4 hR4; clear hR4 hb4) | (go_at_call 11; refine (Frame_bign Z A2 300001 c2 _ HZL.out (by omega) (by omega)).mono ?_; rintro e w3 ⟨rfl, hb3⟩) | (go_at_call 15; refine (New_rf _).mono ?_; rintro e w5 ⟨g, rfl, hr5, hb5⟩; have s5 := s4.new (base := w.heap.size) hB4.size hr5 hb5; have hB5 := below_step hB4 hb5; clear hr5 hb5))
      clear hC2 hR2 hCt hcut' hb2 hb3
      go_upto_region 15 with (first | (have g_ := s9; clear g_; go_at_call 23; refine (Sep.all (w := w) s9 1 g L3 false rfl hB9 BL3.out (by have := LL3.out; omega) _ H3.out).mono ?_; rintro e w10 ⟨v10, rfl, ⟨A10, c10, rfl⟩, s10, hB10, _⟩; clear s9 hB9) | (have g_ := hCM; clear g_; go_at_call 17; refine (Sep.feedI (w := w) sM 1 g L3 false rfl hBM ZM (by have := LL3.out; omega) AM 148538 cM HML.out hCM hcM (by omega) L3 5 (by rw [if_neg (by rw [LL3.out, HML.out]; decide)]) (by rw [if_neg (by rw [LL3.out, HML.out]; decide)])).mono ?_; rintro e w9 ⟨rfl, s9, hB9, _⟩; clear sM hCM) | ((with_reducible refine gate_dst (N := 85) rfl ?_); (try (refine gate_guard (by rfl) ?_; dsimp only)); refine Kd.R_make (Kd.int .u8) (w0 := _) _ 5 rfl (N := 85) rfl 22 _ _ rfl 148538 rfl rfl Try.underlying22 (.int .u8 0) 1 info5 rfl (by decide) (by omega) 0 (ok := fun _ => True) (okp := fun _ => True) rfl (fun _ hk => hk) trivial (by omega) (by omega) (Below.refl _ _) (Nat.le_refl _) ?_; intro vM wM hRM hbM _ _; obtain ⟨ZM, hZM⟩ : ∃ Z, Z = List.replicate (148538 : Int).toNat (0 : Int) := ⟨_, rfl⟩; rw [← hZM] at hRM; have HML := Aside0.mk (show ZM.length = 148538 from (by rw [hZM, List.length_replicate]; rfl)); clear hZM; obtain ⟨AM, cM, eM⟩ := Kd.R_slice hRM; rw [HML.out] at eM; subst eM; have hCM := (RC hRM).2.1; have hcM := (RC hRM).2.2; have sM := s8.below hbM; have hBM := below_step hB8 hbM; clear hRM) | (have g_ := s7; clear g_; go_at_call 17; refine (Sep.feedI (w := w) s7 1 g L2 false rfl hB7 F (by have := LL2.out; omega) A4 300013 c4 HFL.out (s7.bytes 0 rfl).2.1 (s7.bytes 0 rfl).2.2 (by omega) L3 0 E3.out X3.out).mono ?_; rintro e w8 ⟨rfl, s8, hB8, _⟩; clear s7) | (have g_ := s6; clear g_; go_at_call 17; refine (Sep.feedI (w := w) s6 1 g L1 false rfl hB6 F (by have := LL1.out; omega) A4 300013 c4 HFL.out (s6.bytes 0 rfl).2.1 (s6.bytes 0 rfl).2.2 (by omega) L2 0 E2.out X2.out).mono ?_; rintro e w7 ⟨rfl, s7, hB7, _⟩; clear s6) | (go_at_call 17; refine (Sep.feedI (w := w) s5 1 g [] false rfl hB5 F (by decide) A4 300013 c4 HFL.out (s5.bytes 0 rfl).2.1 (s5.bytes 0 rfl).2.2 (by omega) L1 0 E1.out X1.out).mono ?_; rintro e w6 ⟨rfl, s6, hB6, _⟩; clear s5))
      clear s10 LL1 LL2 LL3 E1 E2 E3 X1 X2 X3 H3 hbM
      go_upto_region 16 with (first | (have g_ := G2; clear g_; go_at_call 26; refine (headed_n 0 _).mono ?_; rintro e u3 ⟨v3_, H3, rfl, G3, hb_, O3⟩; replace G1 := G1.below hb_; replace G2 := G2.below hb_; have hD3 := below_step hD2 hb_; clear hb_) | (have g_ := G1; clear g_; go_at_call 26; refine (headed_n 300001 _).mono ?_; rintro e u2 ⟨v2_, H2, rfl, G2, hb_, O2⟩; replace G1 := G1.below hb_; have hD2 := below_step hD1 hb_; clear hb_) | (go_at_call 26; refine (headed_n 300000 _).mono ?_; rintro e u1 ⟨v1_, H1, rfl, G1, hb_, O1⟩; have hD1 := below_step hB10 hb_; clear hb_) | ((with_reducible refine gate_dst (N := 98) rfl ?_); refine Kd.R_lit (Kd.int .u8) (w0 := _) (N := 98) _ 5 rfl rfl (xs := [73, 81, 0, 0, 0, 24, 1, 2, 3]) (inner := [.int .u8 73, .int .u8 81, .int .u8 0, .int .u8 0, .int .u8 0, .int .u8 24, .int .u8 1, .int .u8 2, .int .u8 3]) (ok := fun _ => True) (okp := fun _ => False) (by first | (go_simp; done) | (go_simp; rfl)) (Reps.one (show (Kd.int .u8).M _ _ _ 73 [.int .u8 73] from rfl) (Reps.one (show (Kd.int .u8).M _ _ _ 81 [.int .u8 81] from rfl) (Reps.one (show (Kd.int .u8).M _ _ _ 0 [.int .u8 0] from rfl) (Reps.one (show (Kd.int .u8).M _ _ _ 0 [.int .u8 0] from rfl) (Reps.one (show (Kd.int .u8).M _ _ _ 0 [.int .u8 0] from rfl) (Reps.one (show (Kd.int .u8).M _ _ _ 24 [.int .u8 24] from rfl) (Reps.one (show (Kd.int .u8).M _ _ _ 1 [.int .u8 1] from rfl) (Reps.one (show (Kd.int .u8).M _ _ _ 2 [.int .u8 2] from rfl) (Reps.one (show (Kd.int .u8).M _ _ _ 3 [.int .u8 3] from rfl) (Reps.none _ _)))))))))) (fun _ h => h.elim) trivial (Below.refl _ _) (Nat.le_refl _) (by simp) ?_; intro v4_ u4 hR_ hb_ _ _; have G4 := GoodRow.of hR_; replace G1 := G1.below hb_; replace G2 := G2.below hb_; replace G3 := G3.below hb_; have hD4 := below_step hD3 hb_; clear hb_ hR_) | ((with_reducible refine gate_dst (N := 99) rfl ?_); refine Kd.R_lit (Kd.int .u8) (w0 := _) (N := 99) _ 5 rfl rfl (xs := [73, 73, 81]) (inner := [.int .u8 73, .int .u8 73, .int .u8 81]) (ok := fun _ => True) (okp := fun _ => False) (by first | (go_simp; done) | (go_simp; rfl)) (Reps.one (show (Kd.int .u8).M _ _ _ 73 [.int .u8 73] from rfl) (Reps.one (show (Kd.int .u8).M _ _ _ 73 [.int .u8 73] from rfl) (Reps.one (show (Kd.int .u8).M _ _ _ 81 [.int .u8 81] from rfl) (Reps.none _ _)))) (fun _ h => h.elim) trivial (Below.refl _ _) (Nat.le_refl _) (by simp) ?_; intro v5_ u5 hR_ hb_ _ _; have G5 := GoodRow.of hR_; replace G1 := G1.below hb_; replace G2 := G2.below hb_; replace G3 := G3.below hb_; replace G4 := G4.below hb_; have hD5 := below_step hD4 hb_; clear hb_ hR_) | ((with_reducible refine gate_dst (N := 100) rfl ?_); refine Kd.R_lit (Kd.int .u8) (w0 := _) (N := 100) _ 5 rfl rfl (xs := [81, 73]) (inner := [.int .u8 81, .int .u8 73]) (ok := fun _ => True) (okp := fun _ => False) (by first | (go_simp; done) | (go_simp; rfl)) (Reps.one (show (Kd.int .u8).M _ _ _ 81 [.int .u8 81] from rfl) (Reps.one (show (Kd.int .u8).M _ _ _ 73 [.int .u8 73] from rfl) (Reps.none _ _))) (fun _ h => h.elim) trivial (Below.refl _ _) (Nat.le_refl _) (by simp) ?_; intro v6_ u6 hR_ hb_ _ _; have G6 := GoodRow.of hR_; replace G1 := G1.below hb_; replace G2 := G2.below hb_; replace G3 := G3.below hb_; replace G4 := G4.below hb_; replace G5 := G5.below hb_; have hD6 := below_step hD5 hb_; clear hb_ hR_) | ((with_reducible refine gate_dst (N := 101) rfl ?_); refine Kd.R_lit (Kd.int .u8) (w0 := _) (N := 101) _ 5 rfl rfl (xs := [73]) (inner := [.int .u8 73]) (ok := fun _ => True) (okp := fun _ => False) (by first | (go_simp; done) | (go_simp; rfl)) (Reps.one (show (Kd.int .u8).M _ _ _ 73 [.int .u8 73] from rfl) (Reps.none _ _)) (fun _ h => h.elim) trivial (Below.refl _ _) (Nat.le_refl _) (by simp) ?_; intro v7_ u7 hR_ hb_ _ _; have G7 := GoodRow.of hR_; replace G1 := G1.below hb_; replace G2 := G2.below hb_; replace G3 := G3.below hb_; replace G4 := G4.below hb_; replace G5 := G5.below hb_; replace G6 := G6.below hb_; have hD7 := below_step hD6 hb_; clear hb_ hR_) | ((with_reducible refine gate_dst (N := 102) rfl ?_); obtain ⟨a1, k1, e_, _⟩ := id G1; subst e_; obtain ⟨a2, k2, e_, _⟩ := id G2; subst e_; obtain ⟨a3, k3, e_, _⟩ := id G3; subst e_; obtain ⟨a4, k4, e_, _⟩ := id G4; subst e_; obtain ⟨a5, k5, e_, _⟩ := id G5; subst e_; obtain ⟨a6, k6, e_, _⟩ := id G6; subst e_; obtain ⟨a7, k7, e_, _⟩ := id G7; subst e_; refine Kd.N_lit (Kd.slice 5 (Kd.int .u8)) (w0 := _) (N' := 102) _ 22 rfl rfl (xs := [H1, H2, H3, [73, 81, 0, 0, 0, 24, 1, 2, 3], [73, 73, 81], [81, 73], [73]]) (inner := [.slice a1 (H1 : List Int).length k1, .slice a2 (H2 : List Int).length k2, .slice a3 (H3 : List Int).length k3, .slice a4 ([73, 81, 0, 0, 0, 24, 1, 2, 3] : List Int).length k4, .slice a5 ([73, 73, 81] : List Int).length k5, .slice a6 ([81, 73] : List Int).length k6, .slice a7 ([73] : List Int).length k7]) (ok := fun _ => True) (okp := fun k => k < u7.heap.size) (by first | (go_simp; done) | (go_simp; rfl)) (Reps.one G1.fk (Reps.one G2.fk (Reps.one G3.fk (Reps.one G4.fk (Reps.one G5.fk (Reps.one G6.fk (Reps.one G7.fk (Reps.none _ _)))))))) (fun _ _ => trivial) trivial (Below.refl _ _) (Nat.le_refl _) (by simp) ?_; intro vH wH hNH hb_ _ _; obtain ⟨AH, cH, eH, hcH, hCH⟩ := Kd.N_reads hNH; have eH' : vH = .slice AH 7 cH := eH; clear eH; subst eH'; have hBH := below_step hD7 hb_; clear hb_ hNH))
      have hcH7 : 7 ≤ cH := hcH
      clear hcH
      have OH := Aside0.mk (show okRows [H1, H2, H3, [73, 81, 0, 0, 0, 24, 1, 2, 3], [73, 73, 81], [81, 73], [73]] = true from (okRows_cons O1 (okRows_cons O2 (okRows_cons O3 (okRows_cons (by decide) (okRows_cons (by decide) (okRows_cons (by decide) (okRows_cons (by decide) okRows_nil))))))))
      have hCH7 : Kd.C (Kd.slice 5 (Kd.int .u8)) wH AH 7 [H1, H2, H3, [73, 81, 0, 0, 0, 24, 1, 2, 3], [73, 73, 81], [81, 73], [73]] := hCH
      clear hCH G1 G2 G3 G4 G5 G6 G7 O1 O2 O3 hD1 hD2 hD3 hD4 hD5 hD6 hD7
      have HLn := Aside0.mk (show ([H1, H2, H3, [73, 81, 0, 0, 0, 24, 1, 2, 3], [73, 73, 81], [81, 73], [73]] : List (List Int)).length = 7 from rfl)
      generalize [H1, H2, H3, [73, 81, 0, 0, 0, 24, 1, 2, 3], [73, 73, 81], [81, 73], [73]] = Hs at OH hCH7 HLn
      obtain ⟨bZ, hbZ⟩ : ∃ b : List Int, b = List.replicate (20 : Int).toNat (0 : Int) := ⟨_, rfl⟩
      have HbZ := Aside0.mk hbZ
      have ObZ := Aside0.mk (show okB bZ = true from by rw [hbZ]; decide)
      clear hbZ
      go_wp2_with (fail)
      go_loopg [13] 8 (fun kq v13 w' => ∃ (i : Int), v13 = .int .i64 i ∧ Aside0 (0 ≤ i) ∧ Aside0 (i ≤ 7) ∧ Aside0 ((kq : Int) + i = 8) ∧ Aside0 (Below wH.heap.size wH w'))
      case atStart => exact ⟨0, rfl, ⟨by decide⟩, ⟨by decide⟩, ⟨by decide⟩, ⟨Below.refl _ _⟩⟩
      case round =>
        obtain ⟨i, rfl, hi0, hi7, hik, hBi⟩ := hrel
        have hikk := hik.out
        obtain ⟨gO, hgO⟩ : ∃ gO, gO = gk := ⟨_, rfl⟩
        rw [← hgO] at hikk
        by_cases hc : i < 7
        · have d2 : decide (i < 7) = true := decide_eq_true hc
          have HC := Aside0.mk hc
          have hwi : IntKind.i64.wrap (i + 1) = i + 1 := by have := hi0.out; simp only [i64_w]; unfold wrap64; omega
          have p1 := eq_true hi0.out
          have q1 : (i < ((7 : Nat) : Int)) = True := eq_true hc
          have q1' := eq_true hc
          clear hc
          go_wp2_with (fail)
          go_loopg [14] 8 (fun kq v14 w' => ∃ (k : Int), v14 = .int .i64 k ∧ Aside0 (0 ≤ k) ∧ Aside0 (k ≤ 7) ∧ Aside0 ((kq : Int) + k = 8) ∧ Aside0 (Below wH.heap.size wH w'))
          case atStart => exact ⟨0, rfl, ⟨by decide⟩, ⟨by decide⟩, ⟨by decide⟩, hBi⟩
          case round =>
            obtain ⟨k, rfl, hk0, hk7, hkk, hBk⟩ := hrel
            have hkkk := hkk.out
            clear hBi
            by_cases hc : k < 7
            · have d3 : decide (k < 7) = true := decide_eq_true hc
              have HK := Aside0.mk hc
              have hwk : IntKind.i64.wrap (k + 1) = k + 1 := by have := hk0.out; simp only [i64_w]; unfold wrap64; omega
              have p2 := eq_true hk0.out
              have q2 : (k < ((7 : Nat) : Int)) = True := eq_true hc
              have q2' := eq_true hc
              clear hc
              have hCr := Kd.C_belowB hCH7 hBk.out rfl
              obtain ⟨adh, Ai, ci, ei, hxi, hli, hCi⟩ := at_L1 hCr i hi0.out (by have := HC.out; omega)
              obtain ⟨adh2, Ak, ck, ek, hxk, hlk, hCk⟩ := at_L1 hCr k hk0.out (by have := HK.out; omega)
              have hoi := okRows_rd OH.out i hi0.out (by rw [HLn.out]; have := HC.out; omega)
              have hok := okRows_rd OH.out k hk0.out (by rw [HLn.out]; have := HK.out; omega)
              have Gi : GoodRow wr (.slice Ai (rd_L1 Hs i).length ci) (rd_L1 Hs i) := ⟨Ai, ci, rfl, hli, hCi⟩
              have Gk : GoodRow wr (.slice Ak (rd_L1 Hs k).length ck) (rd_L1 Hs k) := ⟨Ak, ck, rfl, hlk, hCk⟩
              generalize rd_L1 Hs i = xi at hxi hli hCi hoi Gi
              generalize rd_L1 Hs k = xk at hxk hlk hCk hok Gk
              cases ei
              cases ek
              clear hCr hCi hCk hli hlk
              go_wp2_with (fail)
              refine start_ (n := 23) (S := fun w' => w'.cell? (adh.add i.toNat) = some (.slice Ai xi.length ci) ∧ w'.cell? (adh.add k.toNat) = some (.slice Ak xk.length ck)) (ds := []) #[false, false, false, false, false, false, false, false, false, false, false, false, false, false, false, false, false, false, false, false, false, false, false] (by kernel_rfl) rfl rfl ⟨hxi, hxk⟩ (fun hHeld => ?_)
              generalize HW : wr.drew = w5 at hHeld ⊢
              have hH5 := hHeld
              have hB5 : Below wH.heap.size wH w5 := by rw [← HW]; exact below_drew hBk.out
              have Gi5 : GoodRow w5 (.slice Ai xi.length ci) xi := by rw [← HW]; exact Gi.below (below_drew (Below.refl _ _))
              have Gk5 : GoodRow w5 (.slice Ak xk.length ck) xk := by rw [← HW]; exact Gk.below (below_drew (Below.refl _ _))
              refine pure_ (i := 0) (N := some 115) (v := ?_) (a' := ?_) #[true, false, false, false, false, false, false, false, false, false, false, false, false, false, false, false, false, false, false, false, false, false, false] rfl rfl (by kernel_rfl) (fun _ _ _ h => h) (Or.inl ⟨by rfl, ?_⟩) ?_ ?_
              rotate_left
              · intro w'
                go_simp
                with_reducible rfl
              rotate_left
              · simp only [Act.put, List.setIfInBounds_toArray, List.set_cons_zero, List.set_cons_succ, i64_w, i32_w]
                rfl
              refine pure_ (i := 1) (N := some 116) (v := ?_) (a' := ?_) #[true, true, false, false, false, false, false, false, false, false, false, false, false, false, false, false, false, false, false, false, false, false, false] rfl rfl (by kernel_rfl) (fun _ _ _ h => h) (Or.inl ⟨by rfl, ?_⟩) ?_ ?_
              rotate_left
              · intro w'
                go_simp
                with_reducible rfl
              rotate_left
              · simp only [Act.put, List.setIfInBounds_toArray, List.set_cons_zero, List.set_cons_succ, i64_w, i32_w]
                rfl
              refine pure_ (i := 2) (N := some 117) (v := ?_) (a' := ?_) #[true, true, true, false, false, false, false, false, false, false, false, false, false, false, false, false, false, false, false, false, false, false, false] rfl rfl (by kernel_rfl) (fun _ _ _ h => h) (Or.inl ⟨by rfl, ?_⟩) ?_ ?_
              rotate_left
              · intro w'
                go_simp
                with_reducible rfl
              rotate_left
              · simp only [Act.put, List.setIfInBounds_toArray, List.set_cons_zero, List.set_cons_succ, i64_w, i32_w]
                rfl
              refine pure_ (i := 4) (N := some 119) (v := ?_) (a' := ?_) #[true, true, true, false, true, false, false, false, false, false, false, false, false, false, false, false, false, false, false, false, false, false, false] rfl rfl (by kernel_rfl) (fun _ _ _ h => h) (Or.inl ⟨by rfl, ?_⟩) ?_ ?_
              rotate_left
              · intro w'
                go_simp
                with_reducible rfl
              rotate_left
              · simp only [Act.put, List.setIfInBounds_toArray, List.set_cons_zero, List.set_cons_succ, i64_w, i32_w]
                rfl
              refine pure_ (i := 5) (N := some 120) (v := ?_) (a' := ?_) #[true, true, true, false, true, true, false, false, false, false, false, false, false, false, false, false, false, false, false, false, false, false, false] rfl rfl (by kernel_rfl) (fun _ _ _ h => h) (Or.inl ⟨by rfl, ?_⟩) ?_ ?_
              rotate_left
              · intro w'
                go_simp
                with_reducible rfl
              rotate_left
              · simp only [Act.put, List.setIfInBounds_toArray, List.set_cons_zero, List.set_cons_succ, i64_w, i32_w]
                rfl
              refine pure_ (i := 6) (N := some 121) (v := ?_) (a' := ?_) #[true, true, true, false, true, true, true, false, false, false, false, false, false, false, false, false, false, false, false, false, false, false, false] rfl rfl (by kernel_rfl) (fun _ _ _ h => h) (Or.inl ⟨by rfl, ?_⟩) ?_ ?_
              rotate_left
              · intro w'
                go_simp
                with_reducible rfl
              rotate_left
              · simp only [Act.put, List.setIfInBounds_toArray, List.set_cons_zero, List.set_cons_succ, i64_w, i32_w]
                rfl
              refine pure_ (i := 9) (N := some 124) (v := ?_) (a' := ?_) #[true, true, true, false, true, true, true, false, false, true, false, false, false, false, false, false, false, false, false, false, false, false, false] rfl rfl (by kernel_rfl) (fun _ _ _ h => h) (Or.inl ⟨by rfl, ?_⟩) ?_ ?_
              rotate_left
              · intro w'
                go_simp
                with_reducible rfl
              rotate_left
              · simp only [Act.put, List.setIfInBounds_toArray, List.set_cons_zero, List.set_cons_succ, i64_w, i32_w]
                rfl
              refine pure_ (i := 10) (N := some 125) (v := ?_) (a' := ?_) #[true, true, true, false, true, true, true, false, false, true, true, false, false, false, false, false, false, false, false, false, false, false, false] rfl rfl (by kernel_rfl) (fun _ _ _ h => h) (Or.inl ⟨by rfl, ?_⟩) ?_ ?_
              rotate_left
              · intro w'
                go_simp
                with_reducible rfl
              rotate_left
              · simp only [Act.put, List.setIfInBounds_toArray, List.set_cons_zero, List.set_cons_succ, i64_w, i32_w]
                rfl
              refine pure_ (i := 11) (N := some 126) (v := ?_) (a' := ?_) #[true, true, true, false, true, true, true, false, false, true, true, true, false, false, false, false, false, false, false, false, false, false, false] rfl rfl (by kernel_rfl) (fun _ _ _ h => h) (Or.inl ⟨by rfl, ?_⟩) ?_ ?_
              rotate_left
              · intro w'
                go_simp
                with_reducible rfl
              rotate_left
              · simp only [Act.put, List.setIfInBounds_toArray, List.set_cons_zero, List.set_cons_succ, i64_w, i32_w]
                rfl
              refine pure_ (i := 13) (N := some 128) (v := ?_) (a' := ?_) #[true, true, true, false, true, true, true, false, false, true, true, true, false, true, false, false, false, false, false, false, false, false, false] rfl rfl (by kernel_rfl) (fun _ _ _ h => h) (Or.inl ⟨by rfl, ?_⟩) ?_ ?_
              rotate_left
              · intro w'
                go_simp
                with_reducible rfl
              rotate_left
              · simp only [Act.put, List.setIfInBounds_toArray, List.set_cons_zero, List.set_cons_succ, i64_w, i32_w]
                rfl
              refine pure_ (i := 14) (N := some 129) (v := ?_) (a' := ?_) #[true, true, true, false, true, true, true, false, false, true, true, true, false, true, true, false, false, false, false, false, false, false, false] rfl rfl (by kernel_rfl) (fun _ _ _ h => h) (Or.inl ⟨by rfl, ?_⟩) ?_ ?_
              rotate_left
              · intro w'
                go_simp
                with_reducible rfl
              rotate_left
              · simp only [Act.put, List.setIfInBounds_toArray, List.set_cons_zero, List.set_cons_succ, i64_w, i32_w]
                rfl
              refine pure_ (i := 15) (N := some 130) (v := ?_) (a' := ?_) #[true, true, true, false, true, true, true, false, false, true, true, true, false, true, true, true, false, false, false, false, false, false, false] rfl rfl (by kernel_rfl) (fun _ _ _ h => h) (Or.inl ⟨by rfl, ?_⟩) ?_ ?_
              rotate_left
              · intro w'
                go_simp
                with_reducible rfl
              rotate_left
              · simp only [Act.put, List.setIfInBounds_toArray, List.set_cons_zero, List.set_cons_succ, i64_w, i32_w]
                rfl
              refine take_ (i := 3) (N := some 118) (v := ?_) (a' := ?_) #[true, true, true, true, true, true, true, false, false, true, true, true, false, true, true, true, false, false, false, false, false, false, false] rfl rfl (by kernel_rfl) (fun _ _ _ h => h) (Or.inl ⟨by rfl, ?_⟩) hHeld ?_ ?_
              rotate_left
              · rintro w' ⟨s0, s1⟩
                go_simp
                with_reducible rfl
              rotate_left
              · simp only [Act.put, List.setIfInBounds_toArray, List.set_cons_zero, List.set_cons_succ, i64_w, i32_w]
                rfl
              refine take_ (i := 7) (N := some 122) (v := ?_) (a' := ?_) #[true, true, true, true, true, true, true, true, false, true, true, true, false, true, true, true, false, false, false, false, false, false, false] rfl rfl (by kernel_rfl) (fun _ _ _ h => h) (Or.inl ⟨by rfl, ?_⟩) hHeld ?_ ?_
              rotate_left
              · rintro w' ⟨s0, s1⟩
                go_simp
                with_reducible rfl
              rotate_left
              · simp only [Act.put, List.setIfInBounds_toArray, List.set_cons_zero, List.set_cons_succ, i64_w, i32_w]
                rfl
              refine take_ (i := 12) (N := some 127) (v := ?_) (a' := ?_) #[true, true, true, true, true, true, true, true, false, true, true, true, true, true, true, true, false, false, false, false, false, false, false] rfl rfl (by kernel_rfl) (fun _ _ _ h => h) (Or.inl ⟨by rfl, ?_⟩) hHeld ?_ ?_
              rotate_left
              · rintro w' ⟨s0, s1⟩
                go_simp
                with_reducible rfl
              rotate_left
              · simp only [Act.put, List.setIfInBounds_toArray, List.set_cons_zero, List.set_cons_succ, i64_w, i32_w]
                rfl
              refine take_ (i := 16) (N := some 131) (v := ?_) (a' := ?_) #[true, true, true, true, true, true, true, true, false, true, true, true, true, true, true, true, true, false, false, false, false, false, false] rfl rfl (by kernel_rfl) (fun _ _ _ h => h) (Or.inl ⟨by rfl, ?_⟩) hHeld ?_ ?_
              rotate_left
              · rintro w' ⟨s0, s1⟩
                go_simp
                with_reducible rfl
              rotate_left
              · simp only [Act.put, List.setIfInBounds_toArray, List.set_cons_zero, List.set_cons_succ, i64_w, i32_w]
                rfl
              refine join_ (σ := Value × Value × Value × Value × Value) 2 #[true, true, true, true, true, true, true, true, true, true, true, true, true, true, true, true, true, true, true, true, true, false, false] (fun s => [(123, s.1), (132, s.2.1), (135, s.2.2.1), (133, s.2.2.2.1), (134, s.2.2.2.2)]) (fun s w' => Below w5.heap.size w5 w' ∧ GoodRow w' s.1 (frameL [120]) ∧ GoodRow w' s.2.1 (frameL []) ∧ GoodRow w' s.2.2.1 (frameL [121, 122]) ∧ GoodRow w' s.2.2.2.1 ([0] : List Int) ∧ GoodRow w' s.2.2.2.2 bZ ∧ True) ?_ ?_
              rotate_left
              · intro hJ8_17_18_19_20
                refine join_ (σ := Value × Value × Value × Value × Value) 3 #[true, true, true, true, true, true, true, true, true, true, true, true, true, true, true, true, true, true, true, true, false, false, false] (fun s => [(123, s.1), (132, s.2.1), (133, s.2.2.2.1), (134, s.2.2.2.2)]) (fun s w' => Below w5.heap.size w5 w' ∧ GoodRow w' s.1 (frameL [120]) ∧ GoodRow w' s.2.1 (frameL []) ∧ GoodRow w' s.2.2.2.1 ([0] : List Int) ∧ GoodRow w' s.2.2.2.2 bZ ∧ True) ?_ ?_
                rotate_left
                · intro hJ8_17_18_19
                  refine join_ (σ := Value × Value × Value × Value × Value) 3 #[true, true, true, true, true, true, true, true, true, true, true, true, true, true, true, true, true, true, true, false, true, false, false] (fun s => [(123, s.1), (132, s.2.1), (135, s.2.2.1), (133, s.2.2.2.1)]) (fun s w' => Below w5.heap.size w5 w' ∧ GoodRow w' s.1 (frameL [120]) ∧ GoodRow w' s.2.1 (frameL []) ∧ GoodRow w' s.2.2.1 (frameL [121, 122]) ∧ GoodRow w' s.2.2.2.1 ([0] : List Int) ∧ True) ?_ ?_
                  rotate_left
                  · intro hJ8_17_18_20
                    refine join_ (σ := Value × Value × Value × Value × Value) 3 #[true, true, true, true, true, true, true, true, true, true, true, true, true, true, true, true, true, true, false, true, true, false, false] (fun s => [(123, s.1), (132, s.2.1), (135, s.2.2.1), (134, s.2.2.2.2)]) (fun s w' => Below w5.heap.size w5 w' ∧ GoodRow w' s.1 (frameL [120]) ∧ GoodRow w' s.2.1 (frameL []) ∧ GoodRow w' s.2.2.1 (frameL [121, 122]) ∧ GoodRow w' s.2.2.2.2 bZ ∧ True) ?_ ?_
                    rotate_left
                    · intro hJ8_17_19_20
                      refine join_ (σ := Value × Value × Value × Value × Value) 4 #[true, true, true, true, true, true, true, true, true, true, true, true, true, true, true, true, true, true, true, false, false, false, false] (fun s => [(123, s.1), (132, s.2.1), (133, s.2.2.2.1)]) (fun s w' => Below w5.heap.size w5 w' ∧ GoodRow w' s.1 (frameL [120]) ∧ GoodRow w' s.2.1 (frameL []) ∧ GoodRow w' s.2.2.2.1 ([0] : List Int) ∧ True) ?_ ?_
                      rotate_left
                      · intro hJ8_17_18
                        refine join_ (σ := Value × Value × Value × Value × Value) 4 #[true, true, true, true, true, true, true, true, true, true, true, true, true, true, true, true, true, true, false, true, false, false, false] (fun s => [(123, s.1), (132, s.2.1), (134, s.2.2.2.2)]) (fun s w' => Below w5.heap.size w5 w' ∧ GoodRow w' s.1 (frameL [120]) ∧ GoodRow w' s.2.1 (frameL []) ∧ GoodRow w' s.2.2.2.2 bZ ∧ True) ?_ ?_
                        rotate_left
                        · intro hJ8_17_19
                          refine join_ (σ := Value × Value × Value × Value × Value) 4 #[true, true, true, true, true, true, true, true, true, true, true, true, true, true, true, true, true, true, false, false, true, false, false] (fun s => [(123, s.1), (132, s.2.1), (135, s.2.2.1)]) (fun s w' => Below w5.heap.size w5 w' ∧ GoodRow w' s.1 (frameL [120]) ∧ GoodRow w' s.2.1 (frameL []) ∧ GoodRow w' s.2.2.1 (frameL [121, 122]) ∧ True) ?_ ?_
                          rotate_left
                          · intro hJ8_17_20
                            refine join_ (σ := Value × Value × Value × Value × Value) 4 #[true, true, true, true, true, true, true, true, true, true, true, true, true, true, true, true, true, false, true, true, false, false, false] (fun s => [(123, s.1), (133, s.2.2.2.1), (134, s.2.2.2.2)]) (fun s w' => Below w5.heap.size w5 w' ∧ GoodRow w' s.1 (frameL [120]) ∧ GoodRow w' s.2.2.2.1 ([0] : List Int) ∧ GoodRow w' s.2.2.2.2 bZ ∧ True) ?_ ?_
                            rotate_left
                            · intro hJ8_18_19
                              refine join_ (σ := Value × Value × Value × Value × Value) 5 #[true, true, true, true, true, true, true, true, true, true, true, true, true, true, true, true, true, true, false, false, false, false, false] (fun s => [(123, s.1), (132, s.2.1)]) (fun s w' => Below w5.heap.size w5 w' ∧ GoodRow w' s.1 (frameL [120]) ∧ GoodRow w' s.2.1 (frameL []) ∧ True) ?_ ?_
                              rotate_left
                              · intro hJ8_17
                                refine join_ (σ := Value × Value × Value × Value × Value) 5 #[true, true, true, true, true, true, true, true, true, true, true, true, true, true, true, true, true, false, true, false, false, false, false] (fun s => [(123, s.1), (133, s.2.2.2.1)]) (fun s w' => Below w5.heap.size w5 w' ∧ GoodRow w' s.1 (frameL [120]) ∧ GoodRow w' s.2.2.2.1 ([0] : List Int) ∧ True) ?_ ?_
                                rotate_left
                                · intro hJ8_18
                                  refine join_ (σ := Value × Value × Value × Value × Value) 5 #[true, true, true, true, true, true, true, true, true, true, true, true, true, true, true, true, true, false, false, true, false, false, false] (fun s => [(123, s.1), (134, s.2.2.2.2)]) (fun s w' => Below w5.heap.size w5 w' ∧ GoodRow w' s.1 (frameL [120]) ∧ GoodRow w' s.2.2.2.2 bZ ∧ True) ?_ ?_
                                  rotate_left
                                  · intro hJ8_19
                                    refine join_ (σ := Value × Value × Value × Value × Value) 5 #[true, true, true, true, true, true, true, true, false, true, true, true, true, true, true, true, true, false, true, true, false, false, false] (fun s => [(133, s.2.2.2.1), (134, s.2.2.2.2)]) (fun s w' => Below w5.heap.size w5 w' ∧ GoodRow w' s.2.2.2.1 ([0] : List Int) ∧ GoodRow w' s.2.2.2.2 bZ ∧ True) ?_ ?_
                                    rotate_left
                                    · intro hJ18_19
                                      refine join_ (σ := Value × Value × Value × Value × Value) 6 #[true, true, true, true, true, true, true, true, true, true, true, true, true, true, true, true, true, false, false, false, false, false, false] (fun s => [(123, s.1)]) (fun s w' => Below w5.heap.size w5 w' ∧ GoodRow w' s.1 (frameL [120]) ∧ True) ?_ ?_
                                      rotate_left
                                      · intro hJ8
                                        refine join_ (σ := Value × Value × Value × Value × Value) 6 #[true, true, true, true, true, true, true, true, false, true, true, true, true, true, true, true, true, false, true, false, false, false, false] (fun s => [(133, s.2.2.2.1)]) (fun s w' => Below w5.heap.size w5 w' ∧ GoodRow w' s.2.2.2.1 ([0] : List Int) ∧ True) ?_ ?_
                                        rotate_left
                                        · intro hJ18
                                          refine join_ (σ := Value × Value × Value × Value × Value) 6 #[true, true, true, true, true, true, true, true, false, true, true, true, true, true, true, true, true, false, false, true, false, false, false] (fun s => [(134, s.2.2.2.2)]) (fun s w' => Below w5.heap.size w5 w' ∧ GoodRow w' s.2.2.2.2 bZ ∧ True) ?_ ?_
                                          rotate_left
                                          · intro hJ19
                                            refine three_ (i := 8) (j := 18) (k := 19) (Ni := some 123) (Nj := some 133) (Nk := some 134) #[true, true, true, true, true, true, true, true, true, true, true, true, true, true, true, true, true, false, false, false, false, false, false] #[true, true, true, true, true, true, true, true, false, true, true, true, true, true, true, true, true, false, true, false, false, false, false] #[true, true, true, true, true, true, true, true, false, true, true, true, true, true, true, true, true, false, false, true, false, false, false] rfl rfl rfl rfl rfl rfl (by kernel_rfl) (by decide) (by decide) (by decide) (fun K hK => ?_) (fun K hK => ?_) (fun K hK => ?_)
                                            · skip
                                              refine goes_ Try.func27 (by kernel_rfl) rfl #[.string ⟨#[120]⟩] (by rfl) rfl rfl (by simp only [List.map_toArray, List.map_cons, List.map_nil]; rfl) ?_
                                              with_reducible refine (framed_calls ⟨#[120]⟩ [120] (by decide +kernel) (BI_of _ (by decide)) (by decide) _).mono ?_
                                              rintro e w7 ⟨v7, rfl, hR7, hb7⟩
                                              refine ⟨_, rfl, ?_⟩
                                              have hb8 := below_step (Below.refl _ _) hb7
                                              have g7 := GoodRow.of hR7
                                              refine hK.out _ _ ⟨((hb8.cell (World.block_lt_of_cell? w5 _ hH5.1)).trans hH5.1), ((hb8.cell (World.block_lt_of_cell? w5 _ hH5.2)).trans hH5.2)⟩ (fun hHeld => ?_)
                                              clear hK K
                                              refine norm_ (a' := ?_) ?_ ?_
                                              rotate_left
                                              · show Act.put _ (some 123) _ = _
                                                simp only [Act.put, List.setIfInBounds_toArray, List.set_cons_zero, List.set_cons_succ, i64_w, i32_w]
                                                rfl
                                              exact norm_ (by first | (simp only [putAll, Act.put, List.setIfInBounds_toArray, List.set_cons_zero, List.set_cons_succ]; done) | (simp only [putAll, Act.put, List.setIfInBounds_toArray, List.set_cons_zero, List.set_cons_succ]; rfl)) (hJ8 (v7, .bool false, .bool false, .bool false, .bool false) _ ⟨hb8, g7, trivial⟩)
                                            · skip
                                              refine Kd.R_lit_step (Kd.int .u8) (w0 := _) (N := 133) _ 5 (by rfl) rfl (xs := [0]) (inner := [.int .u8 0]) (ok := fun _ => True) (okp := fun _ => False) (by first | (go_simp; done) | (go_simp; rfl)) (Reps.one (show (Kd.int .u8).M _ _ _ 0 [.int .u8 0] from rfl) (Reps.none _ _)) (fun _ h => h.elim) trivial (Below.refl _ _) (Nat.le_refl _) (by simp) ?_
                                              intro v7 w7 hR7 hb7 _ _
                                              have hb8 := below_step (Below.refl _ _) hb7
                                              have g7 := GoodRow.of hR7
                                              refine hK.out _ _ ⟨((hb8.cell (World.block_lt_of_cell? w5 _ hH5.1)).trans hH5.1), ((hb8.cell (World.block_lt_of_cell? w5 _ hH5.2)).trans hH5.2)⟩ (fun hHeld => ?_)
                                              clear hK K
                                              refine norm_ (a' := ?_) ?_ ?_
                                              rotate_left
                                              · show Act.put _ (some 133) _ = _
                                                simp only [Act.put, List.setIfInBounds_toArray, List.set_cons_zero, List.set_cons_succ, i64_w, i32_w]
                                                rfl
                                              exact norm_ (by first | (simp only [putAll, Act.put, List.setIfInBounds_toArray, List.set_cons_zero, List.set_cons_succ]; done) | (simp only [putAll, Act.put, List.setIfInBounds_toArray, List.set_cons_zero, List.set_cons_succ]; rfl)) (hJ18 (.bool false, .bool false, .bool false, v7, .bool false) _ ⟨hb8, g7, trivial⟩)
                                            · skip
                                              refine Kd.R_make_step (Kd.int .u8) (w0 := _) _ 5 (by rfl) (N := 134) rfl 22 _ _ rfl 20 rfl rfl Try.underlying22 (.int .u8 0) 1 info5 rfl (by decide) (by omega) 0 (ok := fun _ => True) (okp := fun _ => True) rfl (fun _ hk => hk) trivial (by omega) (by omega) (Below.refl _ _) (Nat.le_refl _) ?_
                                              intro v7 w7 hR7 hb7 _ _
                                              rw [← HbZ.out] at hR7
                                              have hb8 := below_step (Below.refl _ _) hb7
                                              have g7 := GoodRow.of hR7
                                              refine hK.out _ _ ⟨((hb8.cell (World.block_lt_of_cell? w5 _ hH5.1)).trans hH5.1), ((hb8.cell (World.block_lt_of_cell? w5 _ hH5.2)).trans hH5.2)⟩ (fun hHeld => ?_)
                                              clear hK K
                                              refine norm_ (a' := ?_) ?_ ?_
                                              rotate_left
                                              · show Act.put _ (some 134) _ = _
                                                simp only [Act.put, List.setIfInBounds_toArray, List.set_cons_zero, List.set_cons_succ, i64_w, i32_w]
                                                rfl
                                              exact norm_ (by first | (simp only [putAll, Act.put, List.setIfInBounds_toArray, List.set_cons_zero, List.set_cons_succ]; done) | (simp only [putAll, Act.put, List.setIfInBounds_toArray, List.set_cons_zero, List.set_cons_succ]; rfl)) (hJ19 (.bool false, .bool false, .bool false, .bool false, v7) _ ⟨hb8, g7, trivial⟩)
                                          · skip
                                            rintro ⟨x8, x17, x20, x18, x19⟩ w6 ⟨hb6, g19, _⟩
                                            dsimp only at g19
                                            have hHeld := And.intro ((hb6.cell (World.block_lt_of_cell? w5 _ hH5.1)).trans hH5.1) ((hb6.cell (World.block_lt_of_cell? w5 _ hH5.2)).trans hH5.2)
                                            refine norm_ (a' := ?_) ?_ ?_
                                            rotate_left
                                            · simp only [putAll, Act.put, List.setIfInBounds_toArray, List.set_cons_zero, List.set_cons_succ]
                                              rfl
                                            refine two_ (i := 8) (j := 18) (Ni := some 123) (Nj := some 133) #[true, true, true, true, true, true, true, true, true, true, true, true, true, true, true, true, true, false, false, true, false, false, false] #[true, true, true, true, true, true, true, true, false, true, true, true, true, true, true, true, true, false, true, true, false, false, false] rfl rfl rfl rfl (by kernel_rfl) (by decide) (by decide) (fun K hK => ?_) (fun K hK => ?_)
                                            · skip
                                              refine goes_ Try.func27 (by kernel_rfl) rfl #[.string ⟨#[120]⟩] (by rfl) rfl rfl (by simp only [List.map_toArray, List.map_cons, List.map_nil]; rfl) ?_
                                              with_reducible refine (framed_calls ⟨#[120]⟩ [120] (by decide +kernel) (BI_of _ (by decide)) (by decide) _).mono ?_
                                              rintro e w7 ⟨v7, rfl, hR7, hb7⟩
                                              refine ⟨_, rfl, ?_⟩
                                              have hb8 := below_step hb6 hb7
                                              have g7 := GoodRow.of hR7
                                              have n19 := g19.below hb7
                                              refine hK.out _ _ ⟨((hb8.cell (World.block_lt_of_cell? w5 _ hH5.1)).trans hH5.1), ((hb8.cell (World.block_lt_of_cell? w5 _ hH5.2)).trans hH5.2)⟩ (fun hHeld => ?_)
                                              clear hK K
                                              refine norm_ (a' := ?_) ?_ ?_
                                              rotate_left
                                              · show Act.put _ (some 123) _ = _
                                                simp only [Act.put, List.setIfInBounds_toArray, List.set_cons_zero, List.set_cons_succ, i64_w, i32_w]
                                                rfl
                                              exact norm_ (by first | (simp only [putAll, Act.put, List.setIfInBounds_toArray, List.set_cons_zero, List.set_cons_succ]; done) | (simp only [putAll, Act.put, List.setIfInBounds_toArray, List.set_cons_zero, List.set_cons_succ]; rfl)) (hJ8_19 (v7, .bool false, .bool false, .bool false, x19) _ ⟨hb8, g7, n19, trivial⟩)
                                            · skip
                                              refine Kd.R_lit_step (Kd.int .u8) (w0 := _) (N := 133) _ 5 (by rfl) rfl (xs := [0]) (inner := [.int .u8 0]) (ok := fun _ => True) (okp := fun _ => False) (by first | (go_simp; done) | (go_simp; rfl)) (Reps.one (show (Kd.int .u8).M _ _ _ 0 [.int .u8 0] from rfl) (Reps.none _ _)) (fun _ h => h.elim) trivial (Below.refl _ _) (Nat.le_refl _) (by simp) ?_
                                              intro v7 w7 hR7 hb7 _ _
                                              have hb8 := below_step hb6 hb7
                                              have g7 := GoodRow.of hR7
                                              have n19 := g19.below hb7
                                              refine hK.out _ _ ⟨((hb8.cell (World.block_lt_of_cell? w5 _ hH5.1)).trans hH5.1), ((hb8.cell (World.block_lt_of_cell? w5 _ hH5.2)).trans hH5.2)⟩ (fun hHeld => ?_)
                                              clear hK K
                                              refine norm_ (a' := ?_) ?_ ?_
                                              rotate_left
                                              · show Act.put _ (some 133) _ = _
                                                simp only [Act.put, List.setIfInBounds_toArray, List.set_cons_zero, List.set_cons_succ, i64_w, i32_w]
                                                rfl
                                              exact norm_ (by first | (simp only [putAll, Act.put, List.setIfInBounds_toArray, List.set_cons_zero, List.set_cons_succ]; done) | (simp only [putAll, Act.put, List.setIfInBounds_toArray, List.set_cons_zero, List.set_cons_succ]; rfl)) (hJ18_19 (.bool false, .bool false, .bool false, v7, x19) _ ⟨hb8, g7, n19, trivial⟩)
                                        · skip
                                          rintro ⟨x8, x17, x20, x18, x19⟩ w6 ⟨hb6, g18, _⟩
                                          dsimp only at g18
                                          have hHeld := And.intro ((hb6.cell (World.block_lt_of_cell? w5 _ hH5.1)).trans hH5.1) ((hb6.cell (World.block_lt_of_cell? w5 _ hH5.2)).trans hH5.2)
                                          refine norm_ (a' := ?_) ?_ ?_
                                          rotate_left
                                          · simp only [putAll, Act.put, List.setIfInBounds_toArray, List.set_cons_zero, List.set_cons_succ]
                                            rfl
                                          refine two_ (i := 8) (j := 19) (Ni := some 123) (Nj := some 134) #[true, true, true, true, true, true, true, true, true, true, true, true, true, true, true, true, true, false, true, false, false, false, false] #[true, true, true, true, true, true, true, true, false, true, true, true, true, true, true, true, true, false, true, true, false, false, false] rfl rfl rfl rfl (by kernel_rfl) (by decide) (by decide) (fun K hK => ?_) (fun K hK => ?_)
                                          · skip
                                            refine goes_ Try.func27 (by kernel_rfl) rfl #[.string ⟨#[120]⟩] (by rfl) rfl rfl (by simp only [List.map_toArray, List.map_cons, List.map_nil]; rfl) ?_
                                            with_reducible refine (framed_calls ⟨#[120]⟩ [120] (by decide +kernel) (BI_of _ (by decide)) (by decide) _).mono ?_
                                            rintro e w7 ⟨v7, rfl, hR7, hb7⟩
                                            refine ⟨_, rfl, ?_⟩
                                            have hb8 := below_step hb6 hb7
                                            have g7 := GoodRow.of hR7
                                            have n18 := g18.below hb7
                                            refine hK.out _ _ ⟨((hb8.cell (World.block_lt_of_cell? w5 _ hH5.1)).trans hH5.1), ((hb8.cell (World.block_lt_of_cell? w5 _ hH5.2)).trans hH5.2)⟩ (fun hHeld => ?_)
                                            clear hK K
                                            refine norm_ (a' := ?_) ?_ ?_
                                            rotate_left
                                            · show Act.put _ (some 123) _ = _
                                              simp only [Act.put, List.setIfInBounds_toArray, List.set_cons_zero, List.set_cons_succ, i64_w, i32_w]
                                              rfl
                                            exact norm_ (by first | (simp only [putAll, Act.put, List.setIfInBounds_toArray, List.set_cons_zero, List.set_cons_succ]; done) | (simp only [putAll, Act.put, List.setIfInBounds_toArray, List.set_cons_zero, List.set_cons_succ]; rfl)) (hJ8_18 (v7, .bool false, .bool false, x18, .bool false) _ ⟨hb8, g7, n18, trivial⟩)
                                          · skip
                                            refine Kd.R_make_step (Kd.int .u8) (w0 := _) _ 5 (by rfl) (N := 134) rfl 22 _ _ rfl 20 rfl rfl Try.underlying22 (.int .u8 0) 1 info5 rfl (by decide) (by omega) 0 (ok := fun _ => True) (okp := fun _ => True) rfl (fun _ hk => hk) trivial (by omega) (by omega) (Below.refl _ _) (Nat.le_refl _) ?_
                                            intro v7 w7 hR7 hb7 _ _
                                            rw [← HbZ.out] at hR7
                                            have hb8 := below_step hb6 hb7
                                            have g7 := GoodRow.of hR7
                                            have n18 := g18.below hb7
                                            refine hK.out _ _ ⟨((hb8.cell (World.block_lt_of_cell? w5 _ hH5.1)).trans hH5.1), ((hb8.cell (World.block_lt_of_cell? w5 _ hH5.2)).trans hH5.2)⟩ (fun hHeld => ?_)
                                            clear hK K
                                            refine norm_ (a' := ?_) ?_ ?_
                                            rotate_left
                                            · show Act.put _ (some 134) _ = _
                                              simp only [Act.put, List.setIfInBounds_toArray, List.set_cons_zero, List.set_cons_succ, i64_w, i32_w]
                                              rfl
                                            exact norm_ (by first | (simp only [putAll, Act.put, List.setIfInBounds_toArray, List.set_cons_zero, List.set_cons_succ]; done) | (simp only [putAll, Act.put, List.setIfInBounds_toArray, List.set_cons_zero, List.set_cons_succ]; rfl)) (hJ18_19 (.bool false, .bool false, .bool false, x18, v7) _ ⟨hb8, n18, g7, trivial⟩)
                                      · skip
                                        rintro ⟨x8, x17, x20, x18, x19⟩ w6 ⟨hb6, g8, _⟩
                                        dsimp only at g8
                                        have hHeld := And.intro ((hb6.cell (World.block_lt_of_cell? w5 _ hH5.1)).trans hH5.1) ((hb6.cell (World.block_lt_of_cell? w5 _ hH5.2)).trans hH5.2)
                                        refine norm_ (a' := ?_) ?_ ?_
                                        rotate_left
                                        · simp only [putAll, Act.put, List.setIfInBounds_toArray, List.set_cons_zero, List.set_cons_succ]
                                          rfl
                                        refine three_ (i := 17) (j := 18) (k := 19) (Ni := some 132) (Nj := some 133) (Nk := some 134) #[true, true, true, true, true, true, true, true, true, true, true, true, true, true, true, true, true, true, false, false, false, false, false] #[true, true, true, true, true, true, true, true, true, true, true, true, true, true, true, true, true, false, true, false, false, false, false] #[true, true, true, true, true, true, true, true, true, true, true, true, true, true, true, true, true, false, false, true, false, false, false] rfl rfl rfl rfl rfl rfl (by kernel_rfl) (by decide) (by decide) (by decide) (fun K hK => ?_) (fun K hK => ?_) (fun K hK => ?_)
                                        · skip
                                          refine goes_ Try.func27 (by kernel_rfl) rfl #[.string ⟨#[]⟩] (by rfl) rfl rfl (by simp only [List.map_toArray, List.map_cons, List.map_nil]; rfl) ?_
                                          with_reducible refine (framed_calls ⟨#[]⟩ [] (by decide +kernel) (BI_of _ (by decide)) (by decide) _).mono ?_
                                          rintro e w7 ⟨v7, rfl, hR7, hb7⟩
                                          refine ⟨_, rfl, ?_⟩
                                          have hb8 := below_step hb6 hb7
                                          have g7 := GoodRow.of hR7
                                          have n8 := g8.below hb7
                                          refine hK.out _ _ ⟨((hb8.cell (World.block_lt_of_cell? w5 _ hH5.1)).trans hH5.1), ((hb8.cell (World.block_lt_of_cell? w5 _ hH5.2)).trans hH5.2)⟩ (fun hHeld => ?_)
                                          clear hK K
                                          refine norm_ (a' := ?_) ?_ ?_
                                          rotate_left
                                          · show Act.put _ (some 132) _ = _
                                            simp only [Act.put, List.setIfInBounds_toArray, List.set_cons_zero, List.set_cons_succ, i64_w, i32_w]
                                            rfl
                                          exact norm_ (by first | (simp only [putAll, Act.put, List.setIfInBounds_toArray, List.set_cons_zero, List.set_cons_succ]; done) | (simp only [putAll, Act.put, List.setIfInBounds_toArray, List.set_cons_zero, List.set_cons_succ]; rfl)) (hJ8_17 (x8, v7, .bool false, .bool false, .bool false) _ ⟨hb8, n8, g7, trivial⟩)
                                        · skip
                                          refine Kd.R_lit_step (Kd.int .u8) (w0 := _) (N := 133) _ 5 (by rfl) rfl (xs := [0]) (inner := [.int .u8 0]) (ok := fun _ => True) (okp := fun _ => False) (by first | (go_simp; done) | (go_simp; rfl)) (Reps.one (show (Kd.int .u8).M _ _ _ 0 [.int .u8 0] from rfl) (Reps.none _ _)) (fun _ h => h.elim) trivial (Below.refl _ _) (Nat.le_refl _) (by simp) ?_
                                          intro v7 w7 hR7 hb7 _ _
                                          have hb8 := below_step hb6 hb7
                                          have g7 := GoodRow.of hR7
                                          have n8 := g8.below hb7
                                          refine hK.out _ _ ⟨((hb8.cell (World.block_lt_of_cell? w5 _ hH5.1)).trans hH5.1), ((hb8.cell (World.block_lt_of_cell? w5 _ hH5.2)).trans hH5.2)⟩ (fun hHeld => ?_)
                                          clear hK K
                                          refine norm_ (a' := ?_) ?_ ?_
                                          rotate_left
                                          · show Act.put _ (some 133) _ = _
                                            simp only [Act.put, List.setIfInBounds_toArray, List.set_cons_zero, List.set_cons_succ, i64_w, i32_w]
                                            rfl
                                          exact norm_ (by first | (simp only [putAll, Act.put, List.setIfInBounds_toArray, List.set_cons_zero, List.set_cons_succ]; done) | (simp only [putAll, Act.put, List.setIfInBounds_toArray, List.set_cons_zero, List.set_cons_succ]; rfl)) (hJ8_18 (x8, .bool false, .bool false, v7, .bool false) _ ⟨hb8, n8, g7, trivial⟩)
                                        · skip
                                          refine Kd.R_make_step (Kd.int .u8) (w0 := _) _ 5 (by rfl) (N := 134) rfl 22 _ _ rfl 20 rfl rfl Try.underlying22 (.int .u8 0) 1 info5 rfl (by decide) (by omega) 0 (ok := fun _ => True) (okp := fun _ => True) rfl (fun _ hk => hk) trivial (by omega) (by omega) (Below.refl _ _) (Nat.le_refl _) ?_
                                          intro v7 w7 hR7 hb7 _ _
                                          rw [← HbZ.out] at hR7
                                          have hb8 := below_step hb6 hb7
                                          have g7 := GoodRow.of hR7
                                          have n8 := g8.below hb7
                                          refine hK.out _ _ ⟨((hb8.cell (World.block_lt_of_cell? w5 _ hH5.1)).trans hH5.1), ((hb8.cell (World.block_lt_of_cell? w5 _ hH5.2)).trans hH5.2)⟩ (fun hHeld => ?_)
                                          clear hK K
                                          refine norm_ (a' := ?_) ?_ ?_
                                          rotate_left
                                          · show Act.put _ (some 134) _ = _
                                            simp only [Act.put, List.setIfInBounds_toArray, List.set_cons_zero, List.set_cons_succ, i64_w, i32_w]
                                            rfl
                                          exact norm_ (by first | (simp only [putAll, Act.put, List.setIfInBounds_toArray, List.set_cons_zero, List.set_cons_succ]; done) | (simp only [putAll, Act.put, List.setIfInBounds_toArray, List.set_cons_zero, List.set_cons_succ]; rfl)) (hJ8_19 (x8, .bool false, .bool false, .bool false, v7) _ ⟨hb8, n8, g7, trivial⟩)
                                    · skip
                                      rintro ⟨x8, x17, x20, x18, x19⟩ w6 ⟨hb6, g18, g19, _⟩
                                      dsimp only at g18 g19
                                      have hHeld := And.intro ((hb6.cell (World.block_lt_of_cell? w5 _ hH5.1)).trans hH5.1) ((hb6.cell (World.block_lt_of_cell? w5 _ hH5.2)).trans hH5.2)
                                      refine norm_ (a' := ?_) ?_ ?_
                                      rotate_left
                                      · simp only [putAll, Act.put, List.setIfInBounds_toArray, List.set_cons_zero, List.set_cons_succ]
                                        rfl
                                      refine one_ (i := 8) (N := some 123) #[true, true, true, true, true, true, true, true, true, true, true, true, true, true, true, true, true, false, true, true, false, false, false] rfl rfl (by kernel_rfl) (by decide) (fun K hK => ?_)
                                      refine goes_ Try.func27 (by kernel_rfl) rfl #[.string ⟨#[120]⟩] (by rfl) rfl rfl (by simp only [List.map_toArray, List.map_cons, List.map_nil]; rfl) ?_
                                      with_reducible refine (framed_calls ⟨#[120]⟩ [120] (by decide +kernel) (BI_of _ (by decide)) (by decide) _).mono ?_
                                      rintro e w7 ⟨v7, rfl, hR7, hb7⟩
                                      refine ⟨_, rfl, ?_⟩
                                      have hb8 := below_step hb6 hb7
                                      have g7 := GoodRow.of hR7
                                      have n18 := g18.below hb7
                                      have n19 := g19.below hb7
                                      refine hK.out _ _ ⟨((hb8.cell (World.block_lt_of_cell? w5 _ hH5.1)).trans hH5.1), ((hb8.cell (World.block_lt_of_cell? w5 _ hH5.2)).trans hH5.2)⟩ (fun hHeld => ?_)
                                      clear hK K
                                      refine norm_ (a' := ?_) ?_ ?_
                                      rotate_left
                                      · show Act.put _ (some 123) _ = _
                                        simp only [Act.put, List.setIfInBounds_toArray, List.set_cons_zero, List.set_cons_succ, i64_w, i32_w]
                                        rfl
                                      exact norm_ (by first | (simp only [putAll, Act.put, List.setIfInBounds_toArray, List.set_cons_zero, List.set_cons_succ]; done) | (simp only [putAll, Act.put, List.setIfInBounds_toArray, List.set_cons_zero, List.set_cons_succ]; rfl)) (hJ8_18_19 (v7, .bool false, .bool false, x18, x19) _ ⟨hb8, g7, n18, n19, trivial⟩)
                                  · skip
                                    rintro ⟨x8, x17, x20, x18, x19⟩ w6 ⟨hb6, g8, g19, _⟩
                                    dsimp only at g8 g19
                                    have hHeld := And.intro ((hb6.cell (World.block_lt_of_cell? w5 _ hH5.1)).trans hH5.1) ((hb6.cell (World.block_lt_of_cell? w5 _ hH5.2)).trans hH5.2)
                                    refine norm_ (a' := ?_) ?_ ?_
                                    rotate_left
                                    · simp only [putAll, Act.put, List.setIfInBounds_toArray, List.set_cons_zero, List.set_cons_succ]
                                      rfl
                                    refine two_ (i := 17) (j := 18) (Ni := some 132) (Nj := some 133) #[true, true, true, true, true, true, true, true, true, true, true, true, true, true, true, true, true, true, false, true, false, false, false] #[true, true, true, true, true, true, true, true, true, true, true, true, true, true, true, true, true, false, true, true, false, false, false] rfl rfl rfl rfl (by kernel_rfl) (by decide) (by decide) (fun K hK => ?_) (fun K hK => ?_)
                                    · skip
                                      refine goes_ Try.func27 (by kernel_rfl) rfl #[.string ⟨#[]⟩] (by rfl) rfl rfl (by simp only [List.map_toArray, List.map_cons, List.map_nil]; rfl) ?_
                                      with_reducible refine (framed_calls ⟨#[]⟩ [] (by decide +kernel) (BI_of _ (by decide)) (by decide) _).mono ?_
                                      rintro e w7 ⟨v7, rfl, hR7, hb7⟩
                                      refine ⟨_, rfl, ?_⟩
                                      have hb8 := below_step hb6 hb7
                                      have g7 := GoodRow.of hR7
                                      have n8 := g8.below hb7
                                      have n19 := g19.below hb7
                                      refine hK.out _ _ ⟨((hb8.cell (World.block_lt_of_cell? w5 _ hH5.1)).trans hH5.1), ((hb8.cell (World.block_lt_of_cell? w5 _ hH5.2)).trans hH5.2)⟩ (fun hHeld => ?_)
                                      clear hK K
                                      refine norm_ (a' := ?_) ?_ ?_
                                      rotate_left
                                      · show Act.put _ (some 132) _ = _
                                        simp only [Act.put, List.setIfInBounds_toArray, List.set_cons_zero, List.set_cons_succ, i64_w, i32_w]
                                        rfl
                                      exact norm_ (by first | (simp only [putAll, Act.put, List.setIfInBounds_toArray, List.set_cons_zero, List.set_cons_succ]; done) | (simp only [putAll, Act.put, List.setIfInBounds_toArray, List.set_cons_zero, List.set_cons_succ]; rfl)) (hJ8_17_19 (x8, v7, .bool false, .bool false, x19) _ ⟨hb8, n8, g7, n19, trivial⟩)
                                    · skip
                                      refine Kd.R_lit_step (Kd.int .u8) (w0 := _) (N := 133) _ 5 (by rfl) rfl (xs := [0]) (inner := [.int .u8 0]) (ok := fun _ => True) (okp := fun _ => False) (by first | (go_simp; done) | (go_simp; rfl)) (Reps.one (show (Kd.int .u8).M _ _ _ 0 [.int .u8 0] from rfl) (Reps.none _ _)) (fun _ h => h.elim) trivial (Below.refl _ _) (Nat.le_refl _) (by simp) ?_
                                      intro v7 w7 hR7 hb7 _ _
                                      have hb8 := below_step hb6 hb7
                                      have g7 := GoodRow.of hR7
                                      have n8 := g8.below hb7
                                      have n19 := g19.below hb7
                                      refine hK.out _ _ ⟨((hb8.cell (World.block_lt_of_cell? w5 _ hH5.1)).trans hH5.1), ((hb8.cell (World.block_lt_of_cell? w5 _ hH5.2)).trans hH5.2)⟩ (fun hHeld => ?_)
                                      clear hK K
                                      refine norm_ (a' := ?_) ?_ ?_
                                      rotate_left
                                      · show Act.put _ (some 133) _ = _
                                        simp only [Act.put, List.setIfInBounds_toArray, List.set_cons_zero, List.set_cons_succ, i64_w, i32_w]
                                        rfl
                                      exact norm_ (by first | (simp only [putAll, Act.put, List.setIfInBounds_toArray, List.set_cons_zero, List.set_cons_succ]; done) | (simp only [putAll, Act.put, List.setIfInBounds_toArray, List.set_cons_zero, List.set_cons_succ]; rfl)) (hJ8_18_19 (x8, .bool false, .bool false, v7, x19) _ ⟨hb8, n8, g7, n19, trivial⟩)
                                · skip
                                  rintro ⟨x8, x17, x20, x18, x19⟩ w6 ⟨hb6, g8, g18, _⟩
                                  dsimp only at g8 g18
                                  have hHeld := And.intro ((hb6.cell (World.block_lt_of_cell? w5 _ hH5.1)).trans hH5.1) ((hb6.cell (World.block_lt_of_cell? w5 _ hH5.2)).trans hH5.2)
                                  refine norm_ (a' := ?_) ?_ ?_
                                  rotate_left
                                  · simp only [putAll, Act.put, List.setIfInBounds_toArray, List.set_cons_zero, List.set_cons_succ]
                                    rfl
                                  refine two_ (i := 17) (j := 19) (Ni := some 132) (Nj := some 134) #[true, true, true, true, true, true, true, true, true, true, true, true, true, true, true, true, true, true, true, false, false, false, false] #[true, true, true, true, true, true, true, true, true, true, true, true, true, true, true, true, true, false, true, true, false, false, false] rfl rfl rfl rfl (by kernel_rfl) (by decide) (by decide) (fun K hK => ?_) (fun K hK => ?_)
                                  · skip
                                    refine goes_ Try.func27 (by kernel_rfl) rfl #[.string ⟨#[]⟩] (by rfl) rfl rfl (by simp only [List.map_toArray, List.map_cons, List.map_nil]; rfl) ?_
                                    with_reducible refine (framed_calls ⟨#[]⟩ [] (by decide +kernel) (BI_of _ (by decide)) (by decide) _).mono ?_
                                    rintro e w7 ⟨v7, rfl, hR7, hb7⟩
                                    refine ⟨_, rfl, ?_⟩
                                    have hb8 := below_step hb6 hb7
                                    have g7 := GoodRow.of hR7
                                    have n8 := g8.below hb7
                                    have n18 := g18.below hb7
                                    refine hK.out _ _ ⟨((hb8.cell (World.block_lt_of_cell? w5 _ hH5.1)).trans hH5.1), ((hb8.cell (World.block_lt_of_cell? w5 _ hH5.2)).trans hH5.2)⟩ (fun hHeld => ?_)
                                    clear hK K
                                    refine norm_ (a' := ?_) ?_ ?_
                                    rotate_left
                                    · show Act.put _ (some 132) _ = _
                                      simp only [Act.put, List.setIfInBounds_toArray, List.set_cons_zero, List.set_cons_succ, i64_w, i32_w]
                                      rfl
                                    exact norm_ (by first | (simp only [putAll, Act.put, List.setIfInBounds_toArray, List.set_cons_zero, List.set_cons_succ]; done) | (simp only [putAll, Act.put, List.setIfInBounds_toArray, List.set_cons_zero, List.set_cons_succ]; rfl)) (hJ8_17_18 (x8, v7, .bool false, x18, .bool false) _ ⟨hb8, n8, g7, n18, trivial⟩)
                                  · skip
                                    refine Kd.R_make_step (Kd.int .u8) (w0 := _) _ 5 (by rfl) (N := 134) rfl 22 _ _ rfl 20 rfl rfl Try.underlying22 (.int .u8 0) 1 info5 rfl (by decide) (by omega) 0 (ok := fun _ => True) (okp := fun _ => True) rfl (fun _ hk => hk) trivial (by omega) (by omega) (Below.refl _ _) (Nat.le_refl _) ?_
                                    intro v7 w7 hR7 hb7 _ _
                                    rw [← HbZ.out] at hR7
                                    have hb8 := below_step hb6 hb7
                                    have g7 := GoodRow.of hR7
                                    have n8 := g8.below hb7
                                    have n18 := g18.below hb7
                                    refine hK.out _ _ ⟨((hb8.cell (World.block_lt_of_cell? w5 _ hH5.1)).trans hH5.1), ((hb8.cell (World.block_lt_of_cell? w5 _ hH5.2)).trans hH5.2)⟩ (fun hHeld => ?_)
                                    clear hK K
                                    refine norm_ (a' := ?_) ?_ ?_
                                    rotate_left
                                    · show Act.put _ (some 134) _ = _
                                      simp only [Act.put, List.setIfInBounds_toArray, List.set_cons_zero, List.set_cons_succ, i64_w, i32_w]
                                      rfl
                                    exact norm_ (by first | (simp only [putAll, Act.put, List.setIfInBounds_toArray, List.set_cons_zero, List.set_cons_succ]; done) | (simp only [putAll, Act.put, List.setIfInBounds_toArray, List.set_cons_zero, List.set_cons_succ]; rfl)) (hJ8_18_19 (x8, .bool false, .bool false, x18, v7) _ ⟨hb8, n8, n18, g7, trivial⟩)
                              · skip
                                rintro ⟨x8, x17, x20, x18, x19⟩ w6 ⟨hb6, g8, g17, _⟩
                                dsimp only at g8 g17
                                have hHeld := And.intro ((hb6.cell (World.block_lt_of_cell? w5 _ hH5.1)).trans hH5.1) ((hb6.cell (World.block_lt_of_cell? w5 _ hH5.2)).trans hH5.2)
                                refine norm_ (a' := ?_) ?_ ?_
                                rotate_left
                                · simp only [putAll, Act.put, List.setIfInBounds_toArray, List.set_cons_zero, List.set_cons_succ]
                                  rfl
                                refine three_ (i := 18) (j := 19) (k := 20) (Ni := some 133) (Nj := some 134) (Nk := some 135) #[true, true, true, true, true, true, true, true, true, true, true, true, true, true, true, true, true, true, true, false, false, false, false] #[true, true, true, true, true, true, true, true, true, true, true, true, true, true, true, true, true, true, false, true, false, false, false] #[true, true, true, true, true, true, true, true, true, true, true, true, true, true, true, true, true, true, false, false, true, false, false] rfl rfl rfl rfl rfl rfl (by kernel_rfl) (by decide) (by decide) (by decide) (fun K hK => ?_) (fun K hK => ?_) (fun K hK => ?_)
                                · skip
                                  refine Kd.R_lit_step (Kd.int .u8) (w0 := _) (N := 133) _ 5 (by rfl) rfl (xs := [0]) (inner := [.int .u8 0]) (ok := fun _ => True) (okp := fun _ => False) (by first | (go_simp; done) | (go_simp; rfl)) (Reps.one (show (Kd.int .u8).M _ _ _ 0 [.int .u8 0] from rfl) (Reps.none _ _)) (fun _ h => h.elim) trivial (Below.refl _ _) (Nat.le_refl _) (by simp) ?_
                                  intro v7 w7 hR7 hb7 _ _
                                  have hb8 := below_step hb6 hb7
                                  have g7 := GoodRow.of hR7
                                  have n8 := g8.below hb7
                                  have n17 := g17.below hb7
                                  refine hK.out _ _ ⟨((hb8.cell (World.block_lt_of_cell? w5 _ hH5.1)).trans hH5.1), ((hb8.cell (World.block_lt_of_cell? w5 _ hH5.2)).trans hH5.2)⟩ (fun hHeld => ?_)
                                  clear hK K
                                  refine norm_ (a' := ?_) ?_ ?_
                                  rotate_left
                                  · show Act.put _ (some 133) _ = _
                                    simp only [Act.put, List.setIfInBounds_toArray, List.set_cons_zero, List.set_cons_succ, i64_w, i32_w]
                                    rfl
                                  exact norm_ (by first | (simp only [putAll, Act.put, List.setIfInBounds_toArray, List.set_cons_zero, List.set_cons_succ]; done) | (simp only [putAll, Act.put, List.setIfInBounds_toArray, List.set_cons_zero, List.set_cons_succ]; rfl)) (hJ8_17_18 (x8, x17, .bool false, v7, .bool false) _ ⟨hb8, n8, n17, g7, trivial⟩)
                                · skip
                                  refine Kd.R_make_step (Kd.int .u8) (w0 := _) _ 5 (by rfl) (N := 134) rfl 22 _ _ rfl 20 rfl rfl Try.underlying22 (.int .u8 0) 1 info5 rfl (by decide) (by omega) 0 (ok := fun _ => True) (okp := fun _ => True) rfl (fun _ hk => hk) trivial (by omega) (by omega) (Below.refl _ _) (Nat.le_refl _) ?_
                                  intro v7 w7 hR7 hb7 _ _
                                  rw [← HbZ.out] at hR7
                                  have hb8 := below_step hb6 hb7
                                  have g7 := GoodRow.of hR7
                                  have n8 := g8.below hb7
                                  have n17 := g17.below hb7
                                  refine hK.out _ _ ⟨((hb8.cell (World.block_lt_of_cell? w5 _ hH5.1)).trans hH5.1), ((hb8.cell (World.block_lt_of_cell? w5 _ hH5.2)).trans hH5.2)⟩ (fun hHeld => ?_)
                                  clear hK K
                                  refine norm_ (a' := ?_) ?_ ?_
                                  rotate_left
                                  · show Act.put _ (some 134) _ = _
                                    simp only [Act.put, List.setIfInBounds_toArray, List.set_cons_zero, List.set_cons_succ, i64_w, i32_w]
                                    rfl
                                  exact norm_ (by first | (simp only [putAll, Act.put, List.setIfInBounds_toArray, List.set_cons_zero, List.set_cons_succ]; done) | (simp only [putAll, Act.put, List.setIfInBounds_toArray, List.set_cons_zero, List.set_cons_succ]; rfl)) (hJ8_17_19 (x8, x17, .bool false, .bool false, v7) _ ⟨hb8, n8, n17, g7, trivial⟩)
                                · skip
                                  refine goes_ Try.func27 (by kernel_rfl) rfl #[.string ⟨#[121, 122]⟩] (by rfl) rfl rfl (by simp only [List.map_toArray, List.map_cons, List.map_nil]; rfl) ?_
                                  with_reducible refine (framed_calls ⟨#[121, 122]⟩ [121, 122] (by decide +kernel) (BI_of _ (by decide)) (by decide) _).mono ?_
                                  rintro e w7 ⟨v7, rfl, hR7, hb7⟩
                                  refine ⟨_, rfl, ?_⟩
                                  have hb8 := below_step hb6 hb7
                                  have g7 := GoodRow.of hR7
                                  have n8 := g8.below hb7
                                  have n17 := g17.below hb7
                                  refine hK.out _ _ ⟨((hb8.cell (World.block_lt_of_cell? w5 _ hH5.1)).trans hH5.1), ((hb8.cell (World.block_lt_of_cell? w5 _ hH5.2)).trans hH5.2)⟩ (fun hHeld => ?_)
                                  clear hK K
                                  refine norm_ (a' := ?_) ?_ ?_
                                  rotate_left
                                  · show Act.put _ (some 135) _ = _
                                    simp only [Act.put, List.setIfInBounds_toArray, List.set_cons_zero, List.set_cons_succ, i64_w, i32_w]
                                    rfl
                                  exact norm_ (by first | (simp only [putAll, Act.put, List.setIfInBounds_toArray, List.set_cons_zero, List.set_cons_succ]; done) | (simp only [putAll, Act.put, List.setIfInBounds_toArray, List.set_cons_zero, List.set_cons_succ]; rfl)) (hJ8_17_20 (x8, x17, v7, .bool false, .bool false) _ ⟨hb8, n8, n17, g7, trivial⟩)
                            · skip
                              rintro ⟨x8, x17, x20, x18, x19⟩ w6 ⟨hb6, g8, g18, g19, _⟩
                              dsimp only at g8 g18 g19
                              have hHeld := And.intro ((hb6.cell (World.block_lt_of_cell? w5 _ hH5.1)).trans hH5.1) ((hb6.cell (World.block_lt_of_cell? w5 _ hH5.2)).trans hH5.2)
                              refine norm_ (a' := ?_) ?_ ?_
                              rotate_left
                              · simp only [putAll, Act.put, List.setIfInBounds_toArray, List.set_cons_zero, List.set_cons_succ]
                                rfl
                              refine one_ (i := 17) (N := some 132) #[true, true, true, true, true, true, true, true, true, true, true, true, true, true, true, true, true, true, true, true, false, false, false] rfl rfl (by kernel_rfl) (by decide) (fun K hK => ?_)
                              refine goes_ Try.func27 (by kernel_rfl) rfl #[.string ⟨#[]⟩] (by rfl) rfl rfl (by simp only [List.map_toArray, List.map_cons, List.map_nil]; rfl) ?_
                              with_reducible refine (framed_calls ⟨#[]⟩ [] (by decide +kernel) (BI_of _ (by decide)) (by decide) _).mono ?_
                              rintro e w7 ⟨v7, rfl, hR7, hb7⟩
                              refine ⟨_, rfl, ?_⟩
                              have hb8 := below_step hb6 hb7
                              have g7 := GoodRow.of hR7
                              have n8 := g8.below hb7
                              have n18 := g18.below hb7
                              have n19 := g19.below hb7
                              refine hK.out _ _ ⟨((hb8.cell (World.block_lt_of_cell? w5 _ hH5.1)).trans hH5.1), ((hb8.cell (World.block_lt_of_cell? w5 _ hH5.2)).trans hH5.2)⟩ (fun hHeld => ?_)
                              clear hK K
                              refine norm_ (a' := ?_) ?_ ?_
                              rotate_left
                              · show Act.put _ (some 132) _ = _
                                simp only [Act.put, List.setIfInBounds_toArray, List.set_cons_zero, List.set_cons_succ, i64_w, i32_w]
                                rfl
                              exact norm_ (by first | (simp only [putAll, Act.put, List.setIfInBounds_toArray, List.set_cons_zero, List.set_cons_succ]; done) | (simp only [putAll, Act.put, List.setIfInBounds_toArray, List.set_cons_zero, List.set_cons_succ]; rfl)) (hJ8_17_18_19 (x8, v7, .bool false, x18, x19) _ ⟨hb8, n8, g7, n18, n19, trivial⟩)
                          · skip
                            rintro ⟨x8, x17, x20, x18, x19⟩ w6 ⟨hb6, g8, g17, g20, _⟩
                            dsimp only at g8 g17 g20
                            have hHeld := And.intro ((hb6.cell (World.block_lt_of_cell? w5 _ hH5.1)).trans hH5.1) ((hb6.cell (World.block_lt_of_cell? w5 _ hH5.2)).trans hH5.2)
                            refine norm_ (a' := ?_) ?_ ?_
                            rotate_left
                            · simp only [putAll, Act.put, List.setIfInBounds_toArray, List.set_cons_zero, List.set_cons_succ]
                              rfl
                            refine two_ (i := 18) (j := 19) (Ni := some 133) (Nj := some 134) #[true, true, true, true, true, true, true, true, true, true, true, true, true, true, true, true, true, true, true, false, true, false, false] #[true, true, true, true, true, true, true, true, true, true, true, true, true, true, true, true, true, true, false, true, true, false, false] rfl rfl rfl rfl (by kernel_rfl) (by decide) (by decide) (fun K hK => ?_) (fun K hK => ?_)
                            · skip
                              refine Kd.R_lit_step (Kd.int .u8) (w0 := _) (N := 133) _ 5 (by rfl) rfl (xs := [0]) (inner := [.int .u8 0]) (ok := fun _ => True) (okp := fun _ => False) (by first | (go_simp; done) | (go_simp; rfl)) (Reps.one (show (Kd.int .u8).M _ _ _ 0 [.int .u8 0] from rfl) (Reps.none _ _)) (fun _ h => h.elim) trivial (Below.refl _ _) (Nat.le_refl _) (by simp) ?_
                              intro v7 w7 hR7 hb7 _ _
                              have hb8 := below_step hb6 hb7
                              have g7 := GoodRow.of hR7
                              have n8 := g8.below hb7
                              have n17 := g17.below hb7
                              have n20 := g20.below hb7
                              refine hK.out _ _ ⟨((hb8.cell (World.block_lt_of_cell? w5 _ hH5.1)).trans hH5.1), ((hb8.cell (World.block_lt_of_cell? w5 _ hH5.2)).trans hH5.2)⟩ (fun hHeld => ?_)
                              clear hK K
                              refine norm_ (a' := ?_) ?_ ?_
                              rotate_left
                              · show Act.put _ (some 133) _ = _
                                simp only [Act.put, List.setIfInBounds_toArray, List.set_cons_zero, List.set_cons_succ, i64_w, i32_w]
                                rfl
                              exact norm_ (by first | (simp only [putAll, Act.put, List.setIfInBounds_toArray, List.set_cons_zero, List.set_cons_succ]; done) | (simp only [putAll, Act.put, List.setIfInBounds_toArray, List.set_cons_zero, List.set_cons_succ]; rfl)) (hJ8_17_18_20 (x8, x17, x20, v7, .bool false) _ ⟨hb8, n8, n17, n20, g7, trivial⟩)
                            · skip
                              refine Kd.R_make_step (Kd.int .u8) (w0 := _) _ 5 (by rfl) (N := 134) rfl 22 _ _ rfl 20 rfl rfl Try.underlying22 (.int .u8 0) 1 info5 rfl (by decide) (by omega) 0 (ok := fun _ => True) (okp := fun _ => True) rfl (fun _ hk => hk) trivial (by omega) (by omega) (Below.refl _ _) (Nat.le_refl _) ?_
                              intro v7 w7 hR7 hb7 _ _
                              rw [← HbZ.out] at hR7
                              have hb8 := below_step hb6 hb7
                              have g7 := GoodRow.of hR7
                              have n8 := g8.below hb7
                              have n17 := g17.below hb7
                              have n20 := g20.below hb7
                              refine hK.out _ _ ⟨((hb8.cell (World.block_lt_of_cell? w5 _ hH5.1)).trans hH5.1), ((hb8.cell (World.block_lt_of_cell? w5 _ hH5.2)).trans hH5.2)⟩ (fun hHeld => ?_)
                              clear hK K
                              refine norm_ (a' := ?_) ?_ ?_
                              rotate_left
                              · show Act.put _ (some 134) _ = _
                                simp only [Act.put, List.setIfInBounds_toArray, List.set_cons_zero, List.set_cons_succ, i64_w, i32_w]
                                rfl
                              exact norm_ (by first | (simp only [putAll, Act.put, List.setIfInBounds_toArray, List.set_cons_zero, List.set_cons_succ]; done) | (simp only [putAll, Act.put, List.setIfInBounds_toArray, List.set_cons_zero, List.set_cons_succ]; rfl)) (hJ8_17_19_20 (x8, x17, x20, .bool false, v7) _ ⟨hb8, n8, n17, n20, g7, trivial⟩)
                        · skip
                          rintro ⟨x8, x17, x20, x18, x19⟩ w6 ⟨hb6, g8, g17, g19, _⟩
                          dsimp only at g8 g17 g19
                          have hHeld := And.intro ((hb6.cell (World.block_lt_of_cell? w5 _ hH5.1)).trans hH5.1) ((hb6.cell (World.block_lt_of_cell? w5 _ hH5.2)).trans hH5.2)
                          refine norm_ (a' := ?_) ?_ ?_
                          rotate_left
                          · simp only [putAll, Act.put, List.setIfInBounds_toArray, List.set_cons_zero, List.set_cons_succ]
                            rfl
                          refine two_ (i := 18) (j := 20) (Ni := some 133) (Nj := some 135) #[true, true, true, true, true, true, true, true, true, true, true, true, true, true, true, true, true, true, true, true, false, false, false] #[true, true, true, true, true, true, true, true, true, true, true, true, true, true, true, true, true, true, false, true, true, false, false] rfl rfl rfl rfl (by kernel_rfl) (by decide) (by decide) (fun K hK => ?_) (fun K hK => ?_)
                          · skip
                            refine Kd.R_lit_step (Kd.int .u8) (w0 := _) (N := 133) _ 5 (by rfl) rfl (xs := [0]) (inner := [.int .u8 0]) (ok := fun _ => True) (okp := fun _ => False) (by first | (go_simp; done) | (go_simp; rfl)) (Reps.one (show (Kd.int .u8).M _ _ _ 0 [.int .u8 0] from rfl) (Reps.none _ _)) (fun _ h => h.elim) trivial (Below.refl _ _) (Nat.le_refl _) (by simp) ?_
                            intro v7 w7 hR7 hb7 _ _
                            have hb8 := below_step hb6 hb7
                            have g7 := GoodRow.of hR7
                            have n8 := g8.below hb7
                            have n17 := g17.below hb7
                            have n19 := g19.below hb7
                            refine hK.out _ _ ⟨((hb8.cell (World.block_lt_of_cell? w5 _ hH5.1)).trans hH5.1), ((hb8.cell (World.block_lt_of_cell? w5 _ hH5.2)).trans hH5.2)⟩ (fun hHeld => ?_)
                            clear hK K
                            refine norm_ (a' := ?_) ?_ ?_
                            rotate_left
                            · show Act.put _ (some 133) _ = _
                              simp only [Act.put, List.setIfInBounds_toArray, List.set_cons_zero, List.set_cons_succ, i64_w, i32_w]
                              rfl
                            exact norm_ (by first | (simp only [putAll, Act.put, List.setIfInBounds_toArray, List.set_cons_zero, List.set_cons_succ]; done) | (simp only [putAll, Act.put, List.setIfInBounds_toArray, List.set_cons_zero, List.set_cons_succ]; rfl)) (hJ8_17_18_19 (x8, x17, .bool false, v7, x19) _ ⟨hb8, n8, n17, g7, n19, trivial⟩)
                          · skip
                            refine goes_ Try.func27 (by kernel_rfl) rfl #[.string ⟨#[121, 122]⟩] (by rfl) rfl rfl (by simp only [List.map_toArray, List.map_cons, List.map_nil]; rfl) ?_
                            with_reducible refine (framed_calls ⟨#[121, 122]⟩ [121, 122] (by decide +kernel) (BI_of _ (by decide)) (by decide) _).mono ?_
                            rintro e w7 ⟨v7, rfl, hR7, hb7⟩
                            refine ⟨_, rfl, ?_⟩
                            have hb8 := below_step hb6 hb7
                            have g7 := GoodRow.of hR7
                            have n8 := g8.below hb7
                            have n17 := g17.below hb7
                            have n19 := g19.below hb7
                            refine hK.out _ _ ⟨((hb8.cell (World.block_lt_of_cell? w5 _ hH5.1)).trans hH5.1), ((hb8.cell (World.block_lt_of_cell? w5 _ hH5.2)).trans hH5.2)⟩ (fun hHeld => ?_)
                            clear hK K
                            refine norm_ (a' := ?_) ?_ ?_
                            rotate_left
                            · show Act.put _ (some 135) _ = _
                              simp only [Act.put, List.setIfInBounds_toArray, List.set_cons_zero, List.set_cons_succ, i64_w, i32_w]
                              rfl
                            exact norm_ (by first | (simp only [putAll, Act.put, List.setIfInBounds_toArray, List.set_cons_zero, List.set_cons_succ]; done) | (simp only [putAll, Act.put, List.setIfInBounds_toArray, List.set_cons_zero, List.set_cons_succ]; rfl)) (hJ8_17_19_20 (x8, x17, v7, .bool false, x19) _ ⟨hb8, n8, n17, g7, n19, trivial⟩)
                      · skip
                        rintro ⟨x8, x17, x20, x18, x19⟩ w6 ⟨hb6, g8, g17, g18, _⟩
                        dsimp only at g8 g17 g18
                        have hHeld := And.intro ((hb6.cell (World.block_lt_of_cell? w5 _ hH5.1)).trans hH5.1) ((hb6.cell (World.block_lt_of_cell? w5 _ hH5.2)).trans hH5.2)
                        refine norm_ (a' := ?_) ?_ ?_
                        rotate_left
                        · simp only [putAll, Act.put, List.setIfInBounds_toArray, List.set_cons_zero, List.set_cons_succ]
                          rfl
                        refine two_ (i := 19) (j := 20) (Ni := some 134) (Nj := some 135) #[true, true, true, true, true, true, true, true, true, true, true, true, true, true, true, true, true, true, true, true, false, false, false] #[true, true, true, true, true, true, true, true, true, true, true, true, true, true, true, true, true, true, true, false, true, false, false] rfl rfl rfl rfl (by kernel_rfl) (by decide) (by decide) (fun K hK => ?_) (fun K hK => ?_)
                        · skip
                          refine Kd.R_make_step (Kd.int .u8) (w0 := _) _ 5 (by rfl) (N := 134) rfl 22 _ _ rfl 20 rfl rfl Try.underlying22 (.int .u8 0) 1 info5 rfl (by decide) (by omega) 0 (ok := fun _ => True) (okp := fun _ => True) rfl (fun _ hk => hk) trivial (by omega) (by omega) (Below.refl _ _) (Nat.le_refl _) ?_
                          intro v7 w7 hR7 hb7 _ _
                          rw [← HbZ.out] at hR7
                          have hb8 := below_step hb6 hb7
                          have g7 := GoodRow.of hR7
                          have n8 := g8.below hb7
                          have n17 := g17.below hb7
                          have n18 := g18.below hb7
                          refine hK.out _ _ ⟨((hb8.cell (World.block_lt_of_cell? w5 _ hH5.1)).trans hH5.1), ((hb8.cell (World.block_lt_of_cell? w5 _ hH5.2)).trans hH5.2)⟩ (fun hHeld => ?_)
                          clear hK K
                          refine norm_ (a' := ?_) ?_ ?_
                          rotate_left
                          · show Act.put _ (some 134) _ = _
                            simp only [Act.put, List.setIfInBounds_toArray, List.set_cons_zero, List.set_cons_succ, i64_w, i32_w]
                            rfl
                          exact norm_ (by first | (simp only [putAll, Act.put, List.setIfInBounds_toArray, List.set_cons_zero, List.set_cons_succ]; done) | (simp only [putAll, Act.put, List.setIfInBounds_toArray, List.set_cons_zero, List.set_cons_succ]; rfl)) (hJ8_17_18_19 (x8, x17, .bool false, x18, v7) _ ⟨hb8, n8, n17, n18, g7, trivial⟩)
                        · skip
                          refine goes_ Try.func27 (by kernel_rfl) rfl #[.string ⟨#[121, 122]⟩] (by rfl) rfl rfl (by simp only [List.map_toArray, List.map_cons, List.map_nil]; rfl) ?_
                          with_reducible refine (framed_calls ⟨#[121, 122]⟩ [121, 122] (by decide +kernel) (BI_of _ (by decide)) (by decide) _).mono ?_
                          rintro e w7 ⟨v7, rfl, hR7, hb7⟩
                          refine ⟨_, rfl, ?_⟩
                          have hb8 := below_step hb6 hb7
                          have g7 := GoodRow.of hR7
                          have n8 := g8.below hb7
                          have n17 := g17.below hb7
                          have n18 := g18.below hb7
                          refine hK.out _ _ ⟨((hb8.cell (World.block_lt_of_cell? w5 _ hH5.1)).trans hH5.1), ((hb8.cell (World.block_lt_of_cell? w5 _ hH5.2)).trans hH5.2)⟩ (fun hHeld => ?_)
                          clear hK K
                          refine norm_ (a' := ?_) ?_ ?_
                          rotate_left
                          · show Act.put _ (some 135) _ = _
                            simp only [Act.put, List.setIfInBounds_toArray, List.set_cons_zero, List.set_cons_succ, i64_w, i32_w]
                            rfl
                          exact norm_ (by first | (simp only [putAll, Act.put, List.setIfInBounds_toArray, List.set_cons_zero, List.set_cons_succ]; done) | (simp only [putAll, Act.put, List.setIfInBounds_toArray, List.set_cons_zero, List.set_cons_succ]; rfl)) (hJ8_17_18_20 (x8, x17, v7, x18, .bool false) _ ⟨hb8, n8, n17, g7, n18, trivial⟩)
                    · skip
                      rintro ⟨x8, x17, x20, x18, x19⟩ w6 ⟨hb6, g8, g17, g20, g19, _⟩
                      dsimp only at g8 g17 g20 g19
                      have hHeld := And.intro ((hb6.cell (World.block_lt_of_cell? w5 _ hH5.1)).trans hH5.1) ((hb6.cell (World.block_lt_of_cell? w5 _ hH5.2)).trans hH5.2)
                      refine norm_ (a' := ?_) ?_ ?_
                      rotate_left
                      · simp only [putAll, Act.put, List.setIfInBounds_toArray, List.set_cons_zero, List.set_cons_succ]
                        rfl
                      refine one_ (i := 18) (N := some 133) #[true, true, true, true, true, true, true, true, true, true, true, true, true, true, true, true, true, true, true, true, true, false, false] rfl rfl (by kernel_rfl) (by decide) (fun K hK => ?_)
                      refine Kd.R_lit_step (Kd.int .u8) (w0 := _) (N := 133) _ 5 (by rfl) rfl (xs := [0]) (inner := [.int .u8 0]) (ok := fun _ => True) (okp := fun _ => False) (by first | (go_simp; done) | (go_simp; rfl)) (Reps.one (show (Kd.int .u8).M _ _ _ 0 [.int .u8 0] from rfl) (Reps.none _ _)) (fun _ h => h.elim) trivial (Below.refl _ _) (Nat.le_refl _) (by simp) ?_
                      intro v7 w7 hR7 hb7 _ _
                      have hb8 := below_step hb6 hb7
                      have g7 := GoodRow.of hR7
                      have n8 := g8.below hb7
                      have n17 := g17.below hb7
                      have n20 := g20.below hb7
                      have n19 := g19.below hb7
                      refine hK.out _ _ ⟨((hb8.cell (World.block_lt_of_cell? w5 _ hH5.1)).trans hH5.1), ((hb8.cell (World.block_lt_of_cell? w5 _ hH5.2)).trans hH5.2)⟩ (fun hHeld => ?_)
                      clear hK K
                      refine norm_ (a' := ?_) ?_ ?_
                      rotate_left
                      · show Act.put _ (some 133) _ = _
                        simp only [Act.put, List.setIfInBounds_toArray, List.set_cons_zero, List.set_cons_succ, i64_w, i32_w]
                        rfl
                      exact norm_ (by first | (simp only [putAll, Act.put, List.setIfInBounds_toArray, List.set_cons_zero, List.set_cons_succ]; done) | (simp only [putAll, Act.put, List.setIfInBounds_toArray, List.set_cons_zero, List.set_cons_succ]; rfl)) (hJ8_17_18_19_20 (x8, x17, x20, v7, x19) _ ⟨hb8, n8, n17, n20, g7, n19, trivial⟩)
                  · skip
                    rintro ⟨x8, x17, x20, x18, x19⟩ w6 ⟨hb6, g8, g17, g20, g18, _⟩
                    dsimp only at g8 g17 g20 g18
                    have hHeld := And.intro ((hb6.cell (World.block_lt_of_cell? w5 _ hH5.1)).trans hH5.1) ((hb6.cell (World.block_lt_of_cell? w5 _ hH5.2)).trans hH5.2)
                    refine norm_ (a' := ?_) ?_ ?_
                    rotate_left
                    · simp only [putAll, Act.put, List.setIfInBounds_toArray, List.set_cons_zero, List.set_cons_succ]
                      rfl
                    refine one_ (i := 19) (N := some 134) #[true, true, true, true, true, true, true, true, true, true, true, true, true, true, true, true, true, true, true, true, true, false, false] rfl rfl (by kernel_rfl) (by decide) (fun K hK => ?_)
                    refine Kd.R_make_step (Kd.int .u8) (w0 := _) _ 5 (by rfl) (N := 134) rfl 22 _ _ rfl 20 rfl rfl Try.underlying22 (.int .u8 0) 1 info5 rfl (by decide) (by omega) 0 (ok := fun _ => True) (okp := fun _ => True) rfl (fun _ hk => hk) trivial (by omega) (by omega) (Below.refl _ _) (Nat.le_refl _) ?_
                    intro v7 w7 hR7 hb7 _ _
                    rw [← HbZ.out] at hR7
                    have hb8 := below_step hb6 hb7
                    have g7 := GoodRow.of hR7
                    have n8 := g8.below hb7
                    have n17 := g17.below hb7
                    have n20 := g20.below hb7
                    have n18 := g18.below hb7
                    refine hK.out _ _ ⟨((hb8.cell (World.block_lt_of_cell? w5 _ hH5.1)).trans hH5.1), ((hb8.cell (World.block_lt_of_cell? w5 _ hH5.2)).trans hH5.2)⟩ (fun hHeld => ?_)
                    clear hK K
                    refine norm_ (a' := ?_) ?_ ?_
                    rotate_left
                    · show Act.put _ (some 134) _ = _
                      simp only [Act.put, List.setIfInBounds_toArray, List.set_cons_zero, List.set_cons_succ, i64_w, i32_w]
                      rfl
                    exact norm_ (by first | (simp only [putAll, Act.put, List.setIfInBounds_toArray, List.set_cons_zero, List.set_cons_succ]; done) | (simp only [putAll, Act.put, List.setIfInBounds_toArray, List.set_cons_zero, List.set_cons_succ]; rfl)) (hJ8_17_18_19_20 (x8, x17, x20, x18, v7) _ ⟨hb8, n8, n17, n20, n18, g7, trivial⟩)
                · skip
                  rintro ⟨x8, x17, x20, x18, x19⟩ w6 ⟨hb6, g8, g17, g18, g19, _⟩
                  dsimp only at g8 g17 g18 g19
                  have hHeld := And.intro ((hb6.cell (World.block_lt_of_cell? w5 _ hH5.1)).trans hH5.1) ((hb6.cell (World.block_lt_of_cell? w5 _ hH5.2)).trans hH5.2)
                  refine norm_ (a' := ?_) ?_ ?_
                  rotate_left
                  · simp only [putAll, Act.put, List.setIfInBounds_toArray, List.set_cons_zero, List.set_cons_succ]
                    rfl
                  refine one_ (i := 20) (N := some 135) #[true, true, true, true, true, true, true, true, true, true, true, true, true, true, true, true, true, true, true, true, true, false, false] rfl rfl (by kernel_rfl) (by decide) (fun K hK => ?_)
                  refine goes_ Try.func27 (by kernel_rfl) rfl #[.string ⟨#[121, 122]⟩] (by rfl) rfl rfl (by simp only [List.map_toArray, List.map_cons, List.map_nil]; rfl) ?_
                  with_reducible refine (framed_calls ⟨#[121, 122]⟩ [121, 122] (by decide +kernel) (BI_of _ (by decide)) (by decide) _).mono ?_
                  rintro e w7 ⟨v7, rfl, hR7, hb7⟩
                  refine ⟨_, rfl, ?_⟩
                  have hb8 := below_step hb6 hb7
                  have g7 := GoodRow.of hR7
                  have n8 := g8.below hb7
                  have n17 := g17.below hb7
                  have n18 := g18.below hb7
                  have n19 := g19.below hb7
                  refine hK.out _ _ ⟨((hb8.cell (World.block_lt_of_cell? w5 _ hH5.1)).trans hH5.1), ((hb8.cell (World.block_lt_of_cell? w5 _ hH5.2)).trans hH5.2)⟩ (fun hHeld => ?_)
                  clear hK K
                  refine norm_ (a' := ?_) ?_ ?_
                  rotate_left
                  · show Act.put _ (some 135) _ = _
                    simp only [Act.put, List.setIfInBounds_toArray, List.set_cons_zero, List.set_cons_succ, i64_w, i32_w]
                    rfl
                  exact norm_ (by first | (simp only [putAll, Act.put, List.setIfInBounds_toArray, List.set_cons_zero, List.set_cons_succ]; done) | (simp only [putAll, Act.put, List.setIfInBounds_toArray, List.set_cons_zero, List.set_cons_succ]; rfl)) (hJ8_17_18_19_20 (x8, x17, v7, x18, x19) _ ⟨hb8, n8, n17, g7, n18, n19, trivial⟩)
              rintro ⟨x8, x17, x20, x18, x19⟩ w6 ⟨hb6, g8, g17, g20, g18, g19, _⟩
              dsimp only at g8 g17 g20 g18 g19
              have hHeld := And.intro ((hb6.cell (World.block_lt_of_cell? w5 _ hH5.1)).trans hH5.1) ((hb6.cell (World.block_lt_of_cell? w5 _ hH5.2)).trans hH5.2)
              refine norm_ (a' := ?_) ?_ ?_
              rotate_left
              · simp only [putAll, Act.put, List.setIfInBounds_toArray, List.set_cons_zero, List.set_cons_succ]
                rfl
              refine one_ (i := 21) (N := some 136) #[true, true, true, true, true, true, true, true, true, true, true, true, true, true, true, true, true, true, true, true, true, true, false] rfl rfl (by kernel_rfl) (by decide) (fun K hK => ?_)
              obtain ⟨a8, k8, e_, _⟩ := id g8
              subst e_
              obtain ⟨a17, k17, e_, _⟩ := id g17
              subst e_
              obtain ⟨a20, k20, e_, _⟩ := id g20
              subst e_
              obtain ⟨a18, k18, e_, _⟩ := id g18
              subst e_
              obtain ⟨a19, k19, e_, _⟩ := id g19
              subst e_
              have gi := Gi5.below hb6
              have gk_ := Gk5.below hb6
              refine Kd.N_lit_step (Kd.slice 5 (Kd.int .u8)) (w0 := _) (N' := 136) _ 22 (by rfl) rfl (xs := [xi, xk, (frameL [120]), xk, xi, (frameL []), ([0] : List Int), bZ, (frameL [121, 122])]) (inner := [.slice Ai xi.length ci, .slice Ak xk.length ck, .slice a8 (frameL [120]).length k8, .slice Ak xk.length ck, .slice Ai xi.length ci, .slice a17 (frameL []).length k17, .slice a18 ([0] : List Int).length k18, .slice a19 bZ.length k19, .slice a20 (frameL [121, 122]).length k20]) (ok := fun _ => True) (okp := fun k => k < w6.heap.size) (by first | (go_simp; done) | (go_simp; rfl)) (Reps.one gi.fk (Reps.one gk_.fk (Reps.one g8.fk (Reps.one gk_.fk (Reps.one gi.fk (Reps.one g17.fk (Reps.one g18.fk (Reps.one g19.fk (Reps.one g20.fk (Reps.none _ _)))))))))) (fun _ _ => trivial) trivial (Below.refl _ _) (Nat.le_refl _) (by simp) ?_
              intro vR wR hNR hbR _ _
              have hb9 := below_step hb6 hbR
              refine hK.out _ _ ⟨((hb9.cell (World.block_lt_of_cell? w5 _ hH5.1)).trans hH5.1), ((hb9.cell (World.block_lt_of_cell? w5 _ hH5.2)).trans hH5.2)⟩ (fun hHeld => ?_)
              clear hK K
              refine norm_ (a' := ?_) ?_ ?_
              rotate_left
              · show Act.put _ (some 136) _ = _
                simp only [Act.put, List.setIfInBounds_toArray, List.set_cons_zero, List.set_cons_succ, i64_w, i32_w]
                rfl
              refine pure_ (i := 22) (N := some 15) (v := ?_) (a' := ?_) #[true, true, true, true, true, true, true, true, true, true, true, true, true, true, true, true, true, true, true, true, true, true, true] rfl rfl (by kernel_rfl) (fun _ _ _ h => h) (Or.inl ⟨by rfl, ?_⟩) ?_ ?_
              rotate_left
              · intro w'
                go_simp
                with_reducible rfl
              rotate_left
              · simp only [Act.put, List.setIfInBounds_toArray, List.set_cons_zero, List.set_cons_succ, i64_w, i32_w]
                rfl
              refine done_ (by kernel_rfl) ?_
              obtain ⟨AR, cR, eR, hcR, hCR⟩ := Kd.N_reads hNR
              have eR' : vR = .slice AR 9 cR := eR
              clear eR
              subst eR'
              have hcR9 : 9 ≤ cR := hcR
              have ORw := Aside0.mk (show okRows [xi, xk, (frameL [120]), xk, xi, (frameL []), ([0] : List Int), bZ, (frameL [121, 122])] = true from (okRows_cons hoi (okRows_cons hok (okRows_cons (okB_small (frameL_BI (BI_of _ (by decide))) (by rw [frameL_length]; decide)) (okRows_cons hok (okRows_cons hoi (okRows_cons (okB_small (frameL_BI BI_nil) (by rw [frameL_length]; decide)) (okRows_cons (by decide) (okRows_cons ObZ.out (okRows_cons (okB_small (frameL_BI (BI_of _ (by decide))) (by rw [frameL_length]; decide)) okRows_nil))))))))))
              have hCR9 : Kd.C (Kd.slice 5 (Kd.int .u8)) wR AR 9 [xi, xk, (frameL [120]), xk, xi, (frameL []), ([0] : List Int), bZ, (frameL [121, 122])] := hCR
              have HRl := Aside0.mk (show ([xi, xk, (frameL [120]), xk, xi, (frameL []), ([0] : List Int), bZ, (frameL [121, 122])] : List (List Int)).length = 9 from rfl)
              have hBR := below_step hB5 hb9
              clear hcR hCR g8 g17 g18 g19 g20 gi gk_ hHeld hH5 Gi5 Gk5 Gi Gk hNR hbR hb9
              generalize [xi, xk, (frameL [120]), xk, xi, (frameL []), ([0] : List Int), bZ, (frameL [121, 122])] = Rw at ORw hCR9 HRl
              go_wp2_with (first | (have g_ := hCZ; clear g_; go_at_call 4; refine (reads_n Rw [0, 0, 1, 2, 0, 5, 0, 1] AR AZ 9 cR 8 cZ _ HRl.out rfl hCR2 hcR9 hCZ hcZ ORw.out (by decide) (by decide) (by decide)).mono ?_; rintro e wU ⟨rfl, hbU⟩; have hBU := below_step hBZ hbU) | ((with_reducible refine gate_dst (N := 142) rfl ?_); (try (refine gate_guard (by rfl) ?_; dsimp only)); refine Kd.R_lit (Kd.int .i64) (w0 := _) (N := 142) _ 3 rfl rfl (xs := [0, 0, 1, 2, 0, 5, 0, 1]) (inner := [.int .i64 0, .int .i64 0, .int .i64 1, .int .i64 2, .int .i64 0, .int .i64 5, .int .i64 0, .int .i64 1]) (ok := fun _ => True) (okp := fun _ => False) (by first | (go_simp; done) | (go_simp; rfl)) (Reps.one (show (Kd.int .i64).M _ _ _ 0 [.int .i64 0] from rfl) (Reps.one (show (Kd.int .i64).M _ _ _ 0 [.int .i64 0] from rfl) (Reps.one (show (Kd.int .i64).M _ _ _ 1 [.int .i64 1] from rfl) (Reps.one (show (Kd.int .i64).M _ _ _ 2 [.int .i64 2] from rfl) (Reps.one (show (Kd.int .i64).M _ _ _ 0 [.int .i64 0] from rfl) (Reps.one (show (Kd.int .i64).M _ _ _ 5 [.int .i64 5] from rfl) (Reps.one (show (Kd.int .i64).M _ _ _ 0 [.int .i64 0] from rfl) (Reps.one (show (Kd.int .i64).M _ _ _ 1 [.int .i64 1] from rfl) (Reps.none _ _))))))))) (fun _ h => h.elim) trivial (Below.refl _ _) (Nat.le_refl _) (by simp) ?_; intro vZ wZ hRZ hbZ_ _ _; obtain ⟨AZ, cZ, eZ⟩ := Kd.R_slice hRZ; have eZ' : vZ = .slice AZ 8 cZ := eZ; clear eZ; subst eZ'; have hCZ := (Kd.R_reads' hRZ).2.2; have hcZ := (Kd.R_reads' hRZ).2.1; have hCR2 := Kd.C_below hCR1 hbZ_; have hBZ := below_step hBT hbZ_; clear hRZ) | (go_at_call 4; refine (reads_n Rw [] AR none 9 cR 0 0 _ HRl.out rfl hCR9 hcR9 (C_nilZ _) (Nat.le_refl _) ORw.out rfl (by decide) (by decide)).mono ?_; rintro e wT ⟨rfl, hbT⟩; have hCR1 := Kd.C_below hCR9 hbT; have hBT := below_step hBR hbT))
              go_roundg (gk - 1)
              case measure => have := HK.out; have := hk0.out; omega
              case rel => exact ⟨k + 1, rfl, ⟨by have := hk0.out; omega⟩, ⟨by have := HK.out; omega⟩, ⟨by have := HK.out; omega⟩, ⟨hBU⟩⟩
            · have d3 : decide (k < 7) = false := decide_eq_false hc
              go_wp2_with (fail)
              go_roundg (gO - 1)
              case measure => have := HC.out; have := hi0.out; omega
              case rel => exact ⟨i + 1, rfl, ⟨by have := hi0.out; omega⟩, ⟨by have := HC.out; omega⟩, ⟨by have := HC.out; omega⟩, hBk⟩
        · have d2 : decide (i < 7) = false := decide_eq_false hc
          clear hik hikk hi0 hi7
          go_upto_region 26 with (first | (go_at_call 27; refine (framed_calls ⟨#[97, 98, 99, 73, 81]⟩ [97, 98, 99, 73, 81] (by decide +kernel) (BI_of _ (by decide)) (by decide) _).mono ?_; rintro e wG ⟨vG, rfl, hRG, hbG⟩))
          obtain ⟨AG, cG, eG⟩ := Kd.R_slice hRG
          have HGl := Aside0.mk (show (frameL [97, 98, 99, 73, 81]).length = 18 from by rw [frameL_length]; rfl)
          rw [HGl.out] at eG
          subst eG
          have HGB := Aside0.mk (show BI (frameL [97, 98, 99, 73, 81]) from frameL_BI (BI_of _ (by decide)))
          have hCG := (RC hRG).2.1
          have hcG := (RC hRG).2.2
          have hBG := below_step (below_step hBH hBi.out) hbG
          clear hRG hbG hBi
          generalize frameL [97, 98, 99, 73, 81] = G at HGl HGB hCG
          have hw144 : IntKind.i64.wrap (8 * 18) = 144 := by decide
          go_wp2_with (fail)
          go_loopg [17] 145 (fun kq v17 w' => ∃ (i : Int), v17 = .int .i64 i ∧ Aside0 (0 ≤ i) ∧ Aside0 (i ≤ 144) ∧ Aside0 ((kq : Int) + i = 145) ∧ Aside0 (Below wG.heap.size wG w'))
          case atStart => exact ⟨0, rfl, ⟨by decide⟩, ⟨by decide⟩, ⟨by decide⟩, ⟨Below.refl _ _⟩⟩
          case round =>
            obtain ⟨i, rfl, hi0, hi1, hik, hBi⟩ := hrel
            have hikk := hik.out
            by_cases hc : i < 144
            · have d4 : decide (i < 144) = true := decide_eq_true hc
              have HC := Aside0.mk hc
              have hwi : IntKind.i64.wrap (i + 1) = i + 1 := by have := hi0.out; simp only [i64_w]; unfold wrap64; omega
              obtain ⟨J, K, sz, G', HJ, HK, hJ0, hJM, hK0, hK8, hsh, hset, hoG, hlG⟩ := flip_one G HGB.out HGl.out i hi0.out hc
              clear hc
              have hJw : IntKind.i64.wrap J = J := by simp only [i64_w]; unfold wrap64; omega
              have hs_ : (IntKind.u8.wrap (1 * 2 ^ min K.toNat 8)) = sz := hsh
              have hsz2 : K ≤ 8 → (IntKind.u8.wrap (1 * 2 ^ K.toNat)) = sz := shl_small hsh
              have pk := eq_true hK0
              have d5 : decide (0 ≤ K) = true := decide_eq_true hK0
              have hCGr := Kd.C_belowB hCG hBi.out rfl
              have HSET := Aside0.mk hset
              have HOG := Aside0.mk hoG
              have HLG := Aside0.mk hlG
              clear hset hoG hlG hsh
              go_upto_region 30 with (first | ((with_reducible refine gate_dst (N := 154) rfl ?_); refine Kd.R_lit (Kd.int .u8) (w0 := _) (N := 154) _ 5 rfl rfl (xs := []) (inner := []) (ok := fun _ => True) (okp := fun _ => False) (by first | (go_simp; done) | (go_simp; rfl)) (Reps.none _ _) (fun _ h => h.elim) trivial (Below.refl _ _) (Nat.le_refl _) (by simp) ?_; intro vE wE hRE hbE _ _; obtain ⟨AE, cE, eE⟩ := Kd.R_slice hRE; have eE' : vE = .slice AE 0 cE := eE; clear eE; subst eE') | ((with_reducible refine gate_builtin (b := .append) (xs := #[.tmp 154, .tmp 155]) rfl ?_); at_builtin; refine Kd.R_append_rows_wide (Kd.int .u8) (w0 := wr) wr.heap.size rfl (.tmp 154) (.tmp 155) 22 5 (.int .u8 0) 1 rfl Try.underlying22 info5 rfl (by decide) (by omega) (.slice AE 0 cE) [] G AG 18 cG (fun _ => True) (fun _ => False) rfl rfl hRE (Kd.C_below hCGr hbE) (fun _ _ h => h) (fun _ h => h.elim) (fun _ _ => trivial) hbE hbE.size (by simp) ?_; intro vX wX hRX hbX _ _; rw [List.nil_append] at hRX; obtain ⟨AX, cX, eX⟩ := Kd.R_slice hRX; rw [HGl.out] at eX; subst eX; obtain ⟨gf, of_, ef, _⟩ := Kd.R_form hRX (by rw [HGl.out]; decide); have hAf : AX = some ⟨gf, 0, none⟩ := (by injection ef); clear ef; subst hAf))
              have hxc : wX.drew.cell? ⟨gf, J.toNat, none⟩ = some (.int .u8 (rd G J)) := (Kd.R_celln (0 : Int) (Kd.R_drew hRX) J hJ0 hJM).1
              have hfc := (Kd.R_celln (0 : Int) (Kd.R_drew hRX) J hJ0 hJM).2
              have pJ := eq_true hJ0
              have qJ : (J < ((18 : Nat) : Int)) = True := eq_true hJM
              have qJ' := eq_true hJM
              clear hRE hbE hCGr
              refine start_ (n := 14) (S := fun w' => w'.cell? ⟨gf, J.toNat, none⟩ = some (.int .u8 (rd G J))) (ds := [13]) #[false, false, false, false, false, false, false, false, false, false, false, false, false, false] (by kernel_rfl) rfl rfl (hxc) (fun hHeld => ?_)
              generalize HW : wX.drew = w5 at hHeld hfc ⊢
              have hR5 : (Kd.int .u8).R 5 w5 wr.heap.size (fun _ => True) (.slice (some ⟨gf, 0, none⟩) 18 cX) G := by rw [← HW]; exact Kd.R_drew hRX
              have hB5 : Below wr.heap.size wr w5 := by rw [← HW]; exact below_drew1 hbX
              clear hxc
              refine pure_ (i := 0) (N := some 157) (v := ?_) (a' := ?_) #[true, false, false, false, false, false, false, false, false, false, false, false, false, false] rfl rfl (by kernel_rfl) (fun _ _ _ h => h) (Or.inl ⟨by rfl, ?_⟩) ?_ ?_
              rotate_left
              · intro w'
                go_simp
                with_reducible rfl
              rotate_left
              · simp only [Act.put, List.setIfInBounds_toArray, List.set_cons_zero, List.set_cons_succ, i64_w, i32_w]
                rfl
              refine pure_ (i := 1) (N := some 158) (v := ?_) (a' := ?_) #[true, true, false, false, false, false, false, false, false, false, false, false, false, false] rfl rfl (by kernel_rfl) (fun _ _ _ h => h) (Or.inl ⟨by rfl, ?_⟩) ?_ ?_
              rotate_left
              · intro w'
                go_simp
                with_reducible rfl
              rotate_left
              · simp only [Act.put, List.setIfInBounds_toArray, List.set_cons_zero, List.set_cons_succ, i64_w, i32_w]
                rfl
              refine pure_ (i := 2) (N := some 159) (v := ?_) (a' := ?_) #[true, true, true, false, false, false, false, false, false, false, false, false, false, false] rfl rfl (by kernel_rfl) (fun _ _ _ h => h) (Or.inl ⟨by rfl, ?_⟩) ?_ ?_
              rotate_left
              · intro w'
                go_simp
                with_reducible rfl
              rotate_left
              · simp only [Act.put, List.setIfInBounds_toArray, List.set_cons_zero, List.set_cons_succ, i64_w, i32_w]
                rfl
              refine pure_ (i := 3) (N := some 160) (v := ?_) (a' := ?_) #[true, true, true, true, false, false, false, false, false, false, false, false, false, false] rfl rfl (by kernel_rfl) (fun _ _ _ h => h) (Or.inl ⟨by rfl, ?_⟩) ?_ ?_
              rotate_left
              · intro w'
                go_simp
                with_reducible rfl
              rotate_left
              · simp only [Act.put, List.setIfInBounds_toArray, List.set_cons_zero, List.set_cons_succ, i64_w, i32_w]
                rfl
              refine pure_ (i := 4) (N := some 161) (v := ?_) (a' := ?_) #[true, true, true, true, true, false, false, false, false, false, false, false, false, false] rfl rfl (by kernel_rfl) (fun _ _ _ h => h) (Or.inl ⟨by rfl, ?_⟩) ?_ ?_
              rotate_left
              · intro w'
                go_simp
                with_reducible rfl
              rotate_left
              · simp only [Act.put, List.setIfInBounds_toArray, List.set_cons_zero, List.set_cons_succ, i64_w, i32_w]
                rfl
              refine pure_ (i := 5) (N := some 162) (v := ?_) (a' := ?_) #[true, true, true, true, true, true, false, false, false, false, false, false, false, false] rfl rfl (by kernel_rfl) (fun _ _ _ h => h) (Or.inl ⟨by rfl, ?_⟩) ?_ ?_
              rotate_left
              · intro w'
                go_simp
                with_reducible rfl
              rotate_left
              · simp only [Act.put, List.setIfInBounds_toArray, List.set_cons_zero, List.set_cons_succ, i64_w, i32_w]
                rfl
              refine pure_ (i := 6) (N := some 163) (v := ?_) (a' := ?_) #[true, true, true, true, true, true, true, false, false, false, false, false, false, false] rfl rfl (by kernel_rfl) (fun _ _ _ h => h) (Or.inl ⟨by rfl, ?_⟩) ?_ ?_
              rotate_left
              · intro w'
                go_simp
                with_reducible rfl
              rotate_left
              · simp only [Act.put, List.setIfInBounds_toArray, List.set_cons_zero, List.set_cons_succ, i64_w, i32_w]
                rfl
              refine pure_ (i := 8) (N := some 165) (v := ?_) (a' := ?_) #[true, true, true, true, true, true, true, false, true, false, false, false, false, false] rfl rfl (by kernel_rfl) (fun _ _ _ h => h) (Or.inl ⟨by rfl, ?_⟩) ?_ ?_
              rotate_left
              · intro w'
                go_simp
                with_reducible rfl
              rotate_left
              · simp only [Act.put, List.setIfInBounds_toArray, List.set_cons_zero, List.set_cons_succ, i64_w, i32_w]
                rfl
              refine pure_ (i := 9) (N := some 166) (v := ?_) (a' := ?_) #[true, true, true, true, true, true, true, false, true, true, false, false, false, false] rfl rfl (by kernel_rfl) (fun _ _ _ h => h) (Or.inl ⟨by rfl, ?_⟩) ?_ ?_
              rotate_left
              · intro w'
                go_simp
                with_reducible rfl
              rotate_left
              · simp only [Act.put, List.setIfInBounds_toArray, List.set_cons_zero, List.set_cons_succ, i64_w, i32_w]
                rfl
              refine pure_ (i := 10) (N := some 167) (v := ?_) (a' := ?_) #[true, true, true, true, true, true, true, false, true, true, true, false, false, false] rfl rfl (by kernel_rfl) (fun _ _ _ h => h) (Or.inl ⟨by rfl, ?_⟩) ?_ ?_
              rotate_left
              · intro w'
                go_simp
                with_reducible rfl
              rotate_left
              · simp only [Act.put, List.setIfInBounds_toArray, List.set_cons_zero, List.set_cons_succ, i64_w, i32_w]
                rfl
              refine take_ (i := 7) (N := some 164) (v := ?_) (a' := ?_) #[true, true, true, true, true, true, true, true, true, true, true, false, false, false] rfl rfl (by kernel_rfl) (fun _ _ _ h => h) (Or.inl ⟨by rfl, ?_⟩) hHeld ?_ ?_
              rotate_left
              · intro w' s0
                go_simp
                with_reducible rfl
              rotate_left
              · simp only [Act.put, List.setIfInBounds_toArray, List.set_cons_zero, List.set_cons_succ, i64_w, i32_w]
                rfl
              refine pure_ (i := 11) (N := some 168) (v := ?_) (a' := ?_) #[true, true, true, true, true, true, true, true, true, true, true, true, false, false] rfl rfl (by kernel_rfl) (fun _ _ _ h => h) (Or.inl ⟨by rfl, ?_⟩) ?_ ?_
              rotate_left
              · intro w'
                go_simp
                with_reducible rfl
              rotate_left
              · simp only [Act.put, List.setIfInBounds_toArray, List.set_cons_zero, List.set_cons_succ, i64_w, i32_w]
                rfl
              refine pure_ (i := 12) (N := some 169) (v := ?_) (a' := ?_) #[true, true, true, true, true, true, true, true, true, true, true, true, true, false] rfl rfl (by kernel_rfl) (fun _ _ _ h => h) (Or.inl ⟨by rfl, ?_⟩) ?_ ?_
              rotate_left
              · intro w'
                go_simp
                with_reducible rfl
              rotate_left
              · simp only [Act.put, List.setIfInBounds_toArray, List.set_cons_zero, List.set_cons_succ, i64_w, i32_w]
                rfl
              refine last_ (i := 13) (N := none) #[true, true, true, true, true, true, true, true, true, true, true, true, true, true] rfl rfl (by kernel_rfl) (by decide) (fun K hK => ?_)
              refine skip_ (w1 := ?_) (by rfl) rfl ?_ ?_
              rotate_left
              · (go_simp; rfl)
              refine hK.out _ _ ?_
              clear hK K
              refine done_ (by kernel_rfl) ?_
              have hP := Kd.R_putn hR5 J (Go.bits .xor .u8 (rd G J) sz)
              rw [HSET.out] at hP
              have hB6 : Below wr.heap.size wr (w5.setCell ⟨gf, J.toNat, none⟩ (.int .u8 (Go.bits .xor .u8 (rd G J) sz))) := hB5.setCell (Kd.R_base hR5 gf (by simp [Value.ownBlock])) _
              have e8 : (2 ^ K.toNat % 256 : Int) = sz := by have h8 := hsz2 hK8; rw [IntKind.wrap_u8, Int.one_mul] at h8; exact h8
              rw [← e8] at hP hB6
              have Gx := GoodRow.of hP
              have hcX := (RC hP).2.2
              clear hHeld hR5 hB5 hfc hRX hbX e8 HSET hs_ hsz2 hP
              go_wp2_with (first | (have g_ := hCs2; clear g_; go_at_call 7; refine (turned_n [115, 111, 109, 101, 32, 98, 121, 116, 101, 115] (some ⟨gs2, 0, none⟩) 10 10 i 2147483649 _ rfl hCs2 (Nat.le_refl _) (by decide) ⟨hi0.out, by have := HC.out; omega⟩ (by decide)).mono ?_; rintro e wV2 ⟨rfl, hbV2_⟩; have hbV2 := below_step hbS2 hbV2_) | (have g_ := hCs1; clear g_; go_at_call 7; refine (turned_n [115, 111, 109, 101, 32, 98, 121, 116, 101, 115] (some ⟨gs1, 0, none⟩) 10 10 i 1 _ rfl hCs1 (Nat.le_refl _) (by decide) ⟨hi0.out, by have := HC.out; omega⟩ (by decide)).mono ?_; rintro e wV1 ⟨rfl, hbV1_⟩; have hbV1 := below_step hbS1 hbV1_; clear hCs1) | ((with_reducible refine gate_dst (N := 177) rfl ?_); (try (refine gate_guard (by rfl) ?_; dsimp only)); refine Kd.R_lit_keep (Kd.int .u8) (w0 := _) (N := 177) _ 5 rfl rfl (xs := [115, 111, 109, 101, 32, 98, 121, 116, 101, 115]) (inner := [.int .u8 115, .int .u8 111, .int .u8 109, .int .u8 101, .int .u8 32, .int .u8 98, .int .u8 121, .int .u8 116, .int .u8 101, .int .u8 115]) (ok := fun _ => True) (okp := fun _ => False) (by first | (go_simp; done) | (go_simp; rfl)) (Reps.one (show (Kd.int .u8).M _ _ _ 115 [.int .u8 115] from rfl) (Reps.one (show (Kd.int .u8).M _ _ _ 111 [.int .u8 111] from rfl) (Reps.one (show (Kd.int .u8).M _ _ _ 109 [.int .u8 109] from rfl) (Reps.one (show (Kd.int .u8).M _ _ _ 101 [.int .u8 101] from rfl) (Reps.one (show (Kd.int .u8).M _ _ _ 32 [.int .u8 32] from rfl) (Reps.one (show (Kd.int .u8).M _ _ _ 98 [.int .u8 98] from rfl) (Reps.one (show (Kd.int .u8).M _ _ _ 121 [.int .u8 121] from rfl) (Reps.one (show (Kd.int .u8).M _ _ _ 116 [.int .u8 116] from rfl) (Reps.one (show (Kd.int .u8).M _ _ _ 101 [.int .u8 101] from rfl) (Reps.one (show (Kd.int .u8).M _ _ _ 115 [.int .u8 115] from rfl) (Reps.none _ _))))))))))) (fun _ h => h.elim) trivial (Below.refl _ _) (Nat.le_refl _) (by simp) ?_; intro vs1 ws1_ hos1 hbs1_ hgs1 hns1 hks1; obtain ⟨As1, es1⟩ := hks1; obtain ⟨gs1, caps1, es1', _⟩ := Kd.R_form hos1 (by decide); rw [es1] at es1'; have hAs1 : As1 = some ⟨gs1, 0, none⟩ := (by injection es1'); clear es1'; subst hAs1; subst es1; obtain ⟨ws1, hcvs1, hLs1, hbbs1, hggs1⟩ := Kd.L_conv' (P := Try.prog) (t := 22) Try.underlying22 Try.underlying5 hos1 (by decide) hbs1_ (Nat.le_refl _); have hcvs1' : (convert 22 22 (.slice (some ⟨gs1, 0, none⟩) 10 10)).run Try.prog ws1_ = .ok (.slice (some ⟨gs1, 0, none⟩) 10 10) ws1 := hcvs1; clear hcvs1; obtain ⟨As1', cs1', hes1, hls1, hCs1, _⟩ := hLs1; have hAs1' : (some ⟨gs1, 0, none⟩ : Option Addr) = As1' := (by injection hes1); subst hAs1'; clear hes1 hls1 hos1 hbs1_; have hbS1 := below_step hbR4 hbbs1) | ((with_reducible refine gate_dst (N := 184) rfl ?_); (try (refine gate_guard (by rfl) ?_; dsimp only)); refine Kd.R_lit_keep (Kd.int .u8) (w0 := _) (N := 184) _ 5 rfl rfl (xs := [115, 111, 109, 101, 32, 98, 121, 116, 101, 115]) (inner := [.int .u8 115, .int .u8 111, .int .u8 109, .int .u8 101, .int .u8 32, .int .u8 98, .int .u8 121, .int .u8 116, .int .u8 101, .int .u8 115]) (ok := fun _ => True) (okp := fun _ => False) (by first | (go_simp; done) | (go_simp; rfl)) (Reps.one (show (Kd.int .u8).M _ _ _ 115 [.int .u8 115] from rfl) (Reps.one (show (Kd.int .u8).M _ _ _ 111 [.int .u8 111] from rfl) (Reps.one (show (Kd.int .u8).M _ _ _ 109 [.int .u8 109] from rfl) (Reps.one (show (Kd.int .u8).M _ _ _ 101 [.int .u8 101] from rfl) (Reps.one (show (Kd.int .u8).M _ _ _ 32 [.int .u8 32] from rfl) (Reps.one (show (Kd.int .u8).M _ _ _ 98 [.int .u8 98] from rfl) (Reps.one (show (Kd.int .u8).M _ _ _ 121 [.int .u8 121] from rfl) (Reps.one (show (Kd.int .u8).M _ _ _ 116 [.int .u8 116] from rfl) (Reps.one (show (Kd.int .u8).M _ _ _ 101 [.int .u8 101] from rfl) (Reps.one (show (Kd.int .u8).M _ _ _ 115 [.int .u8 115] from rfl) (Reps.none _ _))))))))))) (fun _ h => h.elim) trivial (Below.refl _ _) (Nat.le_refl _) (by simp) ?_; intro vs2 ws2_ hos2 hbs2_ hgs2 hns2 hks2; obtain ⟨As2, es2⟩ := hks2; obtain ⟨gs2, caps2, es2', _⟩ := Kd.R_form hos2 (by decide); rw [es2] at es2'; have hAs2 : As2 = some ⟨gs2, 0, none⟩ := (by injection es2'); clear es2'; subst hAs2; subst es2; obtain ⟨ws2, hcvs2, hLs2, hbbs2, hggs2⟩ := Kd.L_conv' (P := Try.prog) (t := 22) Try.underlying22 Try.underlying5 hos2 (by decide) hbs2_ (Nat.le_refl _); have hcvs2' : (convert 22 22 (.slice (some ⟨gs2, 0, none⟩) 10 10)).run Try.prog ws2_ = .ok (.slice (some ⟨gs2, 0, none⟩) 10 10) ws2 := hcvs2; clear hcvs2; obtain ⟨As2', cs2', hes2, hls2, hCs2, _⟩ := hLs2; have hAs2' : (some ⟨gs2, 0, none⟩ : Option Addr) = As2' := (by injection hes2); subst hAs2'; clear hes2 hls2 hos2 hbs2_; have hbS2 := below_step hbV1 hbbs2) | (go_at_call 27; refine (framed_calls ⟨#[122]⟩ [122] (by decide +kernel) (BI_of _ (by decide)) (by decide) _).mono ?_; rintro e wz ⟨vz, rfl, hRz, hbz⟩; have Gz := GoodRow.of hRz; replace Gx := Gx.below hbz; obtain ⟨Az, kz, ez, _⟩ := id Gz; subst ez; have hB7 := below_step hB6 hbz; clear hRz hbz) | ((with_reducible refine gate_dst (N := 172) rfl ?_); refine Kd.N_lit (Kd.slice 5 (Kd.int .u8)) (w0 := _) (N' := 172) _ 22 rfl rfl (xs := [G', frameL [122]]) (inner := [.slice (some ⟨gf, 0, none⟩) 18 cX, .slice Az (frameL [122]).length kz]) (ok := fun _ => True) (okp := fun k => k < wz.heap.size) (by first | (go_simp; done) | (go_simp; rfl)) (Reps.one Gx.fk (Reps.one Gz.fk (Reps.none _ _))) (fun _ _ => trivial) trivial (Below.refl _ _) (Nat.le_refl _) (by simp) ?_; intro vL wL hNL hbL _ _; obtain ⟨AL, cL, eL, hcL, hCL⟩ := Kd.N_reads hNL; have eL' : vL = .slice AL 2 cL := eL; clear eL; subst eL'; have hcL2 : 2 ≤ cL := hcL; have hCL2 : Kd.C (Kd.slice 5 (Kd.int .u8)) wL AL 2 [G', frameL [122]] := hCL; have hB8 := below_step hB7 hbL; clear hcL hCL hNL hbL Gx Gz) | ((with_reducible refine gate_dst (N := 173) rfl ?_); (try (refine gate_guard (by rfl) ?_; dsimp only)); refine Kd.R_lit (Kd.int .i64) (w0 := _) (N := 173) _ 3 rfl rfl (xs := [5, 5]) (inner := [.int .i64 5, .int .i64 5]) (ok := fun _ => True) (okp := fun _ => False) (by first | (go_simp; done) | (go_simp; rfl)) (Reps.one (show (Kd.int .i64).M _ _ _ 5 [.int .i64 5] from rfl) (Reps.one (show (Kd.int .i64).M _ _ _ 5 [.int .i64 5] from rfl) (Reps.none _ _))) (fun _ h => h.elim) trivial (Below.refl _ _) (Nat.le_refl _) (by simp) ?_; intro vM wM hRM hbM _ _; obtain ⟨AM, cM, eM⟩ := Kd.R_slice hRM; have eM' : vM = .slice AM 2 cM := eM; clear eM; subst eM'; have hCM := (Kd.R_reads' hRM).2.2; have hcM := (Kd.R_reads' hRM).2.1; have hCL3 := Kd.C_below hCL2 hbM; have hB9 := below_step hB8 hbM; clear hRM hbM) | (go_at_call 4; refine (reads_n [G', frameL [122]] [5, 5] AL AM 2 cL 2 cM _ rfl rfl hCL3 hcL2 hCM hcM (okRows_cons HOG.out (okRows_cons (okB_small (frameL_BI (BI_of _ (by decide))) (by rw [frameL_length]; decide)) okRows_nil)) (by decide) (by decide) (by decide)).mono ?_; rintro e wR4 ⟨rfl, hbR4_⟩; have hbR4 := below_step hB9 hbR4_; clear hbR4_))
              go_roundg (gk - 1)
              case measure => have := HC.out; have := hi0.out; omega
              case rel => exact ⟨i + 1, rfl, ⟨by have := hi0.out; omega⟩, ⟨by have := HC.out; omega⟩, ⟨by have := HC.out; omega⟩, ⟨below_step hBi.out hbV2⟩⟩
            · have d4 : decide (i < 144) = false := decide_eq_false hc
              go_wp2_with (first | (go_at_call 14; refine (awake_calls _).mono ?_; rintro e wF ⟨rfl, hbF⟩; have hBF := below_step (below_step hBG hBi.out) hbF))
              go_ret
              exact ⟨rfl, hBF⟩
end Go.Proofs.Ytkndghbognhocaa.X
