/- FrameReads. -/
import Derived.Test.YtkndghbognhocaaXFrSep3
import Derived.Test.YtkndghbognhocaaXFrWaits
import Derived.Test.YtkndghbognhocaaXx0
import Derived.Test.YtkndghbognhocaaXx6
namespace Go.Proofs.Ytkndghbognhocaa.X
open Go.RowKit Go.Proofs.YtkndghbognhocaaW.PrintWords Go.Proofs.YtkndghbognhocaaW.PrintLast Go.Proofs.YtkndghbognhocaaW.PrintMore Go.Proofs.Ytkndghbognhocaa.Pure
attribute [local go_sem] max2_int min2_int max_two min_two max_three min_three max_four min_four
set_option linter.unusedVariables false
set_option linter.unusedSimpArgs false
/-- whole numbers, as a law's argument brings them -/
def okZ (l : List Int) : Bool := l.all (fun x => decide (-9223372036854775808 ≤ x) && decide (x < 9223372036854775808))
theorem okZ_rd {l : List Int} (h : okZ l = true) (i : Int) (h0 : 0 ≤ i) (h1 : i < (l.length : Int)) : -9223372036854775808 ≤ rd l i ∧ rd l i < 9223372036854775808 := by
  obtain ⟨j, rfl⟩ := Int.eq_ofNat_of_zero_le h0
  rw [rd_at l j (by omega)]
  unfold okZ at h
  have := List.all_eq_true.1 h _ (List.getElem_mem (show j < l.length by omega))
  rw [Bool.and_eq_true, decide_eq_true_eq, decide_eq_true_eq] at this
  exact this
theorem okZ_of {l : List Int} (h : ∀ x ∈ l, (Lit.int .i64 x).wf = true) : okZ l = true := by
  unfold okZ
  rw [List.all_eq_true]
  intro x hx
  have := wf_i64 (h x hx)
  rw [Bool.and_eq_true, decide_eq_true_eq, decide_eq_true_eq]
  exact this
def okRows (l : List (List Int)) : Bool := l.all okB
theorem okRows_rd {l : List (List Int)} (h : okRows l = true) (i : Int) (h0 : 0 ≤ i) (h1 : i < (l.length : Int)) : okB (rd_L1 l i) = true := by
  obtain ⟨j, rfl⟩ := Int.eq_ofNat_of_zero_le h0
  unfold okRows at h
  have hj : j < l.length := by omega
  have : rd_L1 l (j : Int) = l[j] := by unfold rd_L1; rw [Int.toNat_natCast, List.getD_eq_getElem?_getD, List.getElem?_eq_getElem hj]; rfl
  rw [this]
  exact List.all_eq_true.1 h _ (List.getElem_mem hj)
theorem bring_cases {l : List Int} (h : okZ l = true) (i : Int) (h0 : 0 ≤ i) : ∃ n : Int, 0 ≤ n ∧ n ≤ 5 ∧ ((decide (i < (l.length : Int)) = false ∧ n = 3) ∨ (decide (i < (l.length : Int)) = true ∧ incunableref00_Bring.f (rd l i) 6 = some n)) := by
  by_cases h1 : i < (l.length : Int)
  · have h2 := okZ_rd h i h0 h1
    obtain ⟨n, hn, hn0, hn1⟩ := bring_some (rd l i) 6 h2.1 h2.2 (by decide) (by decide)
    exact ⟨n, hn0, by omega, .inr ⟨decide_eq_true h1, hn⟩⟩
  · exact ⟨3, by decide, by decide, .inl ⟨decide_eq_false h1, rfl⟩⟩
def incunablelaw28_FrameReads.f (k : Nat) (l0 : List (List Int)) (l1 : List Int) : Option Bool := if okRows l0 = true ∧ okZ l1 = true ∧ l0.length ≤ 140737488351232 ∧ l1.length ≤ 140737488351232 then some true else none
set_option maxHeartbeats 16000000 in
set_option maxRecDepth 100000 in
theorem incunablelaw28_FrameReads.calls (k : Nat) (A0 : Option Addr) (c0 : Nat) (l0 : List (List Int)) (A1 : Option Addr) (c1 : Nat) (l1 : List Int) (r : Bool) (w : World) (hr0 : Kd.C (Kd.slice 5 (Kd.int .u8)) w A0 l0.length l0) (hc0 : l0.length ≤ c0) (hr1 : Kd.C (Kd.int .i64) w A1 l1.length l1) (hc1 : l1.length ≤ c1) (h : incunablelaw28_FrameReads.f k l0 l1 = some r) :
    Calls Try.prog 4 #[.slice A0 l0.length c0, .slice A1 l1.length c1] w fun e w' => e = .returned (.bool r) ∧ Below w.heap.size w w' := by
  unfold incunablelaw28_FrameReads.f at h
  by_cases hok : okRows l0 = true ∧ okZ l1 = true ∧ l0.length ≤ 140737488351232 ∧ l1.length ≤ 140737488351232
  · rw [if_pos hok] at h
    injection h with h
    subst h
    obtain ⟨ho0, ho1, hn0, hn1⟩ := hok
    have HN0 := Aside0.mk hn0
    have HN1 := Aside0.mk hn1
    clear hn0 hn1
    go_enter Try.func4, Try.ntmps4
    go_wp2_with (first | (go_at_call 15; refine (New_rf _).mono ?_; rintro e w3 ⟨g, rfl, hr3, hb3⟩; have s1 := (Sep.nil w).new (base := w.heap.size) (Nat.le_refl _) hr3 hb3; clear hr3) | (go_at_call 16; refine (New_rm _).mono ?_; rintro e w4 ⟨gm, rfl, hr4, hb4⟩; have S2 := Aside0.mk (s1.newM (base := w.heap.size) hb3.size hr4 hb4); have HB2 := Aside0.mk (below_step hb3 hb4); clear s1 hr4 hb3 hb4))
    go_loopg [7] 61 (fun kq v7 w' => ∃ (i : Int) (L : List Int) (t : Bool), v7 = .int .i64 i ∧ Aside0 (0 ≤ i) ∧ Aside0 ((kq : Int) + i = 61) ∧ Aside0 (L.length ≤ 1048576) ∧ Aside0 (BI L) ∧ Aside0 (Sep w' w'.heap.size [tRF w.heap.size g L t, tRM w.heap.size gm L t]) ∧ Aside0 (Below w.heap.size w w'))
    case atStart => exact ⟨0, [], false, rfl, ⟨by decide⟩, ⟨by decide⟩, ⟨by simp⟩, ⟨BI_nil⟩, S2, HB2⟩
    case round =>
      obtain ⟨i, L, t, rfl, hi0, hk, hLl, hLB, hS, hB⟩ := hrel
      clear S2 HB2
      have hkk := hk.out
      obtain ⟨gO, hgO⟩ : ∃ gO, gO = gk := ⟨_, rfl⟩
      rw [← hgO] at hkk
      by_cases hc : i < (l0.length : Int) ∧ i < 60
      · have d1 : decide (i < (l0.length : Int)) = true := decide_eq_true hc.1
        have d2 : decide (i < 60) = true := decide_eq_true hc.2
        have hwi : IntKind.i64.wrap (i + 1) = i + 1 := by have := hi0.out; simp only [i64_w]; unfold wrap64; omega
        have p1 := eq_true hi0.out
        have q1 := eq_true hc.1
        have HC := Aside0.mk hc
        have hokx := okRows_rd ho0 i hi0.out hc.1
        have hBr := bring_cases ho1 i hi0.out
        obtain ⟨adx, A1x, c1x, ex, hxx0, hlx, hCx0⟩ := at_L1 hr0 i hi0.out hc.1
        cases ex
        generalize hx0_ : rd_L1 l0 i = x at hokx hxx0 hlx hCx0
        have hxx := (hB.out.cell (World.block_lt_of_cell? w _ hxx0)).trans hxx0
        have hCx := Kd.C_belowB hCx0 hB.out rfl
        have HXB := Aside0.mk (okB_BI hokx)
        have HXL := Aside0.mk (okB_len hokx)
        have HLX := Aside0.mk hlx
        clear hc hokx hlx hx0_
        obtain ⟨L', hL'⟩ : ∃ L', (if L.length + x.length ≤ 1048576 then L ++ x else L) = L' := ⟨_, rfl⟩
        obtain ⟨ef, hef⟩ : ∃ ef : Int, (if L.length + x.length ≤ 1048576 then (0 : Int) else 5) = ef := ⟨_, rfl⟩
        have hLl2 := Aside0.mk (show L'.length ≤ 1048576 from by rw [← hL']; split; rw [List.length_append]; assumption; exact hLl.out)
        have hLB2 := Aside0.mk (show BI L' from by rw [← hL']; split; exact BI_append hLB.out HXB.out; exact hLB.out)
        have HL' := Aside0.mk hL'
        have HEF := Aside0.mk hef
        have hee : (ef != ef) = false := bne_self_eq_false ef
        have hbr := hBr
        clear hL' hef hBr
        go_upto_region 6 with (first | (go_at_call 10; refine (copy_n x A1x _ c1x _ rfl HXL.out hCx HLX.out).mono ?_; rintro e w2 ⟨v2, rfl, hR2, hb2⟩; obtain ⟨A2, c2, e2⟩ := Kd.R_slice hR2; subst e2; have s3 := Sep.addB hS.out hB.out hb2 hR2; have hB3 := below_step hB.out hb2; have hxx3 := (hB3.cell (World.block_lt_of_cell? w _ hxx0)).trans hxx0; clear hb2 hR2))
        refine start_ (n := 19) (S := fun w' => w'.cell? (adx.add i.toNat) = some (.slice A1x x.length c1x)) (ds := []) #[false, false, false, false, false, false, false, false, false, false, false, false, false, false, false, false, false, false, false] (by kernel_rfl) rfl rfl (hxx3) (fun hHeld => ?_)
        generalize HW : w2.drew = w5 at hHeld ⊢
        have s5 : Sep w5 w5.heap.size [tRF w.heap.size g L t, tRM w.heap.size gm L t, tB w.heap.size (.slice A2 x.length c2) x] := by rw [← HW]; exact s3.below (below_drew (Below.refl _ _))
        have hB5 : Below w.heap.size w w5 := by rw [← HW]; exact below_drew hB3
        clear s3 hB3 hxx3
        refine pure_ (i := 0) (N := some 36) (v := ?_) (a' := ?_) #[true, false, false, false, false, false, false, false, false, false, false, false, false, false, false, false, false, false, false] rfl rfl (by kernel_rfl) (fun _ _ _ h => h) (Or.inl ⟨by rfl, ?_⟩) ?_ ?_
        rotate_left
        · intro w'
          go_simp
          with_reducible rfl
        rotate_left
        · simp only [Act.put, List.setIfInBounds_toArray, List.set_cons_zero, List.set_cons_succ, i64_w, i32_w]
          rfl
        refine pure_ (i := 1) (N := some 37) (v := ?_) (a' := ?_) #[true, true, false, false, false, false, false, false, false, false, false, false, false, false, false, false, false, false, false] rfl rfl (by kernel_rfl) (fun _ _ _ h => h) (Or.inl ⟨by rfl, ?_⟩) ?_ ?_
        rotate_left
        · intro w'
          go_simp
          with_reducible rfl
        rotate_left
        · simp only [Act.put, List.setIfInBounds_toArray, List.set_cons_zero, List.set_cons_succ, i64_w, i32_w]
          rfl
        refine pure_ (i := 3) (N := some 39) (v := ?_) (a' := ?_) #[true, true, false, true, false, false, false, false, false, false, false, false, false, false, false, false, false, false, false] rfl rfl (by kernel_rfl) (fun _ _ _ h => h) (Or.inl ⟨by rfl, ?_⟩) ?_ ?_
        rotate_left
        · intro w'
          go_simp
          with_reducible rfl
        rotate_left
        · simp only [Act.put, List.setIfInBounds_toArray, List.set_cons_zero, List.set_cons_succ, i64_w, i32_w]
          rfl
        refine pure_ (i := 4) (N := some 40) (v := ?_) (a' := ?_) #[true, true, false, true, true, false, false, false, false, false, false, false, false, false, false, false, false, false, false] rfl rfl (by kernel_rfl) (fun _ _ _ h => h) (Or.inl ⟨by rfl, ?_⟩) ?_ ?_
        rotate_left
        · intro w'
          go_simp
          with_reducible rfl
        rotate_left
        · simp only [Act.put, List.setIfInBounds_toArray, List.set_cons_zero, List.set_cons_succ, i64_w, i32_w]
          rfl
        refine pure_ (i := 5) (N := some 41) (v := ?_) (a' := ?_) #[true, true, false, true, true, true, false, false, false, false, false, false, false, false, false, false, false, false, false] rfl rfl (by kernel_rfl) (fun _ _ _ h => h) (Or.inl ⟨by rfl, ?_⟩) ?_ ?_
        rotate_left
        · intro w'
          go_simp
          with_reducible rfl
        rotate_left
        · simp only [Act.put, List.setIfInBounds_toArray, List.set_cons_zero, List.set_cons_succ, i64_w, i32_w]
          rfl
        refine pure_ (i := 6) (N := some 42) (v := ?_) (a' := ?_) #[true, true, false, true, true, true, true, false, false, false, false, false, false, false, false, false, false, false, false] rfl rfl (by kernel_rfl) (fun _ _ _ h => h) (Or.inl ⟨by rfl, ?_⟩) ?_ ?_
        rotate_left
        · intro w'
          go_simp
          with_reducible rfl
        rotate_left
        · simp only [Act.put, List.setIfInBounds_toArray, List.set_cons_zero, List.set_cons_succ, i64_w, i32_w]
          rfl
        refine take_ (i := 7) (N := some 43) (v := ?_) (a' := ?_) #[true, true, false, true, true, true, true, true, false, false, false, false, false, false, false, false, false, false, false] rfl rfl (by kernel_rfl) (fun _ _ _ h => h) (Or.inl ⟨by rfl, ?_⟩) hHeld ?_ ?_
        rotate_left
        · intro w' s0
          go_simp
          with_reducible rfl
        rotate_left
        · simp only [Act.put, List.setIfInBounds_toArray, List.set_cons_zero, List.set_cons_succ, i64_w, i32_w]
          rfl
        refine one_ (i := 2) (N := some 38) #[true, true, true, true, true, true, true, true, false, false, false, false, false, false, false, false, false, false, false] rfl rfl (by kernel_rfl) (by decide) (fun K hK => ?_)
        refine goes_ Try.func17 (by kernel_rfl) rfl #[.pointer (some ⟨g, 0, none⟩), .slice A2 x.length c2] (by rfl) rfl rfl (by simp only [List.map_toArray, List.map_cons, List.map_nil]; rfl) ?_
        with_reducible refine (Sep.feedI (w := w) s5 0 g L t rfl hB5 x hLl.out A2 x.length c2 rfl (s5.bytes 2 rfl).2.1 (s5.bytes 2 rfl).2.2 HXL.out L' ef HL'.out HEF.out).mono ?_
        rintro e w6 ⟨rfl, s6, hB6, _⟩
        refine ⟨_, rfl, ?_⟩
        refine hK.out _ _ (((hB6.cell (World.block_lt_of_cell? w _ hxx0)).trans hxx0)) (fun hHeld => ?_)
        clear hK K
        refine norm_ (a' := ?_) ?_ ?_
        rotate_left
        · show Act.put _ (some 38) _ = _
          simp only [Act.put, List.setIfInBounds_toArray, List.set_cons_zero, List.set_cons_succ, i64_w, i32_w]
          rfl
        refine one_ (i := 8) (N := some 44) #[true, true, true, true, true, true, true, true, true, false, false, false, false, false, false, false, false, false, false] rfl rfl (by kernel_rfl) (by decide) (fun K hK => ?_)
        refine goes_ Try.func18 (by kernel_rfl) rfl #[.pointer (some ⟨gm, 0, none⟩), .slice A1x x.length c1x] (by rfl) rfl rfl (by simp only [List.map_toArray, List.map_cons, List.map_nil]; rfl) ?_
        with_reducible refine (Sep.feedM (w := w) s6 1 gm L t rfl hB6 x hLl.out A1x x.length c1x rfl (Kd.C_belowB hCx0 hB6 rfl) HLX.out HXL.out L' ef HL'.out HEF.out).mono ?_
        rintro e w7 ⟨rfl, s7, hB7, _⟩
        refine ⟨_, rfl, ?_⟩
        refine hK.out _ _ (((hB7.cell (World.block_lt_of_cell? w _ hxx0)).trans hxx0)) (fun hHeld => ?_)
        clear hK K
        refine norm_ (a' := ?_) ?_ ?_
        rotate_left
        · show Act.put _ (some 44) _ = _
          simp only [Act.put, List.setIfInBounds_toArray, List.set_cons_zero, List.set_cons_succ, i64_w, i32_w]
          rfl
        refine pure_ (i := 9) (N := some 45) (v := ?_) (a' := ?_) #[true, true, true, true, true, true, true, true, true, true, false, false, false, false, false, false, false, false, false] rfl rfl (by kernel_rfl) (fun _ _ _ h => h) (Or.inl ⟨by rfl, ?_⟩) ?_ ?_
        rotate_left
        · intro w'
          go_simp
          with_reducible rfl
        rotate_left
        · simp only [Act.put, List.setIfInBounds_toArray, List.set_cons_zero, List.set_cons_succ, i64_w, i32_w]
          rfl
        refine pure_ (i := 10) (N := some 46) (v := ?_) (a' := ?_) #[true, true, true, true, true, true, true, true, true, true, true, false, false, false, false, false, false, false, false] rfl rfl (by kernel_rfl) (fun _ _ _ h => h) (Or.inl ⟨by rfl, ?_⟩) ?_ ?_
        rotate_left
        · intro w'
          go_simp
          with_reducible rfl
        rotate_left
        · simp only [Act.put, List.setIfInBounds_toArray, List.set_cons_zero, List.set_cons_succ, i64_w, i32_w]
          rfl
        refine pure_ (i := 11) (N := some 47) (v := ?_) (a' := ?_) #[true, true, true, true, true, true, true, true, true, true, true, true, false, false, false, false, false, false, false] rfl rfl (by kernel_rfl) (fun _ _ _ h => h) (Or.inl ⟨by rfl, ?_⟩) ?_ ?_
        rotate_left
        · intro w'
          go_simp
          with_reducible rfl
        rotate_left
        · simp only [Act.put, List.setIfInBounds_toArray, List.set_cons_zero, List.set_cons_succ, i64_w, i32_w]
          rfl
        refine pure_ (i := 12) (N := some 48) (v := ?_) (a' := ?_) #[true, true, true, true, true, true, true, true, true, true, true, true, true, false, false, false, false, false, false] rfl rfl (by kernel_rfl) (fun _ _ _ h => h) (Or.inl ⟨by rfl, ?_⟩) ?_ ?_
        rotate_left
        · intro w'
          go_simp
          with_reducible rfl
        rotate_left
        · simp only [Act.put, List.setIfInBounds_toArray, List.set_cons_zero, List.set_cons_succ, i64_w, i32_w]
          rfl
        refine pure_ (i := 13) (N := some 49) (v := ?_) (a' := ?_) #[true, true, true, true, true, true, true, true, true, true, true, true, true, true, false, false, false, false, false] rfl rfl (by kernel_rfl) (fun _ _ _ h => h) (Or.inl ⟨by rfl, ?_⟩) ?_ ?_
        rotate_left
        · intro w'
          go_simp
          with_reducible rfl
        rotate_left
        · simp only [Act.put, List.setIfInBounds_toArray, List.set_cons_zero, List.set_cons_succ, i64_w, i32_w]
          rfl
        refine pure_ (i := 14) (N := some 50) (v := ?_) (a' := ?_) #[true, true, true, true, true, true, true, true, true, true, true, true, true, true, true, false, false, false, false] rfl rfl (by kernel_rfl) (fun _ _ _ h => h) (Or.inl ⟨by rfl, ?_⟩) ?_ ?_
        rotate_left
        · intro w'
          go_simp
          with_reducible rfl
        rotate_left
        · simp only [Act.put, List.setIfInBounds_toArray, List.set_cons_zero, List.set_cons_succ, i64_w, i32_w]
          rfl
        refine take_ (i := 15) (N := some 51) (v := ?_) (a' := ?_) #[true, true, true, true, true, true, true, true, true, true, true, true, true, true, true, true, false, false, false] rfl rfl (by kernel_rfl) (fun _ _ _ h => h) (Or.inl ⟨by rfl, ?_⟩) hHeld ?_ ?_
        rotate_left
        · intro w' s0
          go_simp
          with_reducible rfl
        rotate_left
        · simp only [Act.put, List.setIfInBounds_toArray, List.set_cons_zero, List.set_cons_succ, i64_w, i32_w]
          rfl
        refine one_ (i := 16) (N := some 52) #[true, true, true, true, true, true, true, true, true, true, true, true, true, true, true, true, true, false, false] rfl rfl (by kernel_rfl) (by decide) (fun K hK => ?_)
        refine goes_ Try.func13 (by kernel_rfl) rfl #[.slice A2 x.length c2, .slice A1x x.length c1x] (by rfl) rfl rfl (by simp only [List.map_toArray, List.map_cons, List.map_nil]; rfl) ?_
        with_reducible refine (eq_n x x A2 A1x x.length c2 x.length c1x _ rfl HXL.out (s7.bytes 2 rfl).2.1 (s7.bytes 2 rfl).2.2 rfl (Kd.C_belowB hCx0 hB7 rfl) HLX.out).mono ?_
        rintro e w8 ⟨he, hb8⟩
        rw [decide_eq_true rfl] at he
        subst he
        have S8 := Aside0.mk (s7.below hb8).now
        have hB8 := below_step hB7 hb8
        refine ⟨_, rfl, ?_⟩
        refine hK.out _ _ (((hB8.cell (World.block_lt_of_cell? w _ hxx0)).trans hxx0)) (fun hHeld => ?_)
        clear hK K
        refine norm_ (a' := ?_) ?_ ?_
        rotate_left
        · show Act.put _ (some 52) _ = _
          simp only [Act.put, List.setIfInBounds_toArray, List.set_cons_zero, List.set_cons_succ, i64_w, i32_w]
          rfl
        refine pure_ (i := 17) (N := some 53) (v := ?_) (a' := ?_) #[true, true, true, true, true, true, true, true, true, true, true, true, true, true, true, true, true, true, false] rfl rfl (by kernel_rfl) (fun _ _ _ h => h) (Or.inl ⟨by rfl, ?_⟩) ?_ ?_
        rotate_left
        · intro w'
          go_simp
          with_reducible rfl
        rotate_left
        · simp only [Act.put, List.setIfInBounds_toArray, List.set_cons_zero, List.set_cons_succ, i64_w, i32_w]
          rfl
        refine pure_ (i := 18) (N := some 54) (v := ?_) (a' := ?_) #[true, true, true, true, true, true, true, true, true, true, true, true, true, true, true, true, true, true, true] rfl rfl (by kernel_rfl) (fun _ _ _ h => h) (Or.inl ⟨by rfl, ?_⟩) ?_ ?_
        rotate_left
        · intro w'
          go_simp
          with_reducible rfl
        rotate_left
        · simp only [Act.put, List.setIfInBounds_toArray, List.set_cons_zero, List.set_cons_succ, i64_w, i32_w]
          rfl
        refine done_ (by kernel_rfl) ?_
        clear hHeld
        go_wp2
        have HB8 := Aside0.mk hB8
        clear hB8
        go_loopg [9] (x.length + 1) (fun kq v9 w' => ∃ (q : Int) (y : List Int), v9 = .int .i64 q ∧ Aside0 (0 ≤ q) ∧ Aside0 (q ≤ (x.length : Int)) ∧ Aside0 ((kq : Int) + q = (x.length : Int) + 1) ∧ Aside0 (Sep w' w'.heap.size [tRF w.heap.size g L' t, tRM w.heap.size gm L' t, tB w.heap.size (.slice A2 x.length c2) y]) ∧ Aside0 (Below w.heap.size w w'))
        case atStart => exact ⟨0, x, rfl, ⟨by decide⟩, ⟨by omega⟩, ⟨by omega⟩, S8, HB8⟩
        case round =>
          obtain ⟨q, y, rfl, hq0, hqx, hqk, hSq, hBq⟩ := hrel
          clear S8 HB8
          have hqkk := hqk.out
          by_cases hqc : q < (x.length : Int)
          · have e1 : decide (q < (x.length : Int)) = true := decide_eq_true hqc
            obtain ⟨gf, hgf⟩ := Sep.form hSq.out 2 rfl (by have := hq0.out; omega)
            subst hgf
            obtain ⟨hcell, hfr, hput⟩ := Sep.put (w := w) hSq.out 2 rfl hBq.out q hq0.out hqc
            have hwq : IntKind.i64.wrap (q + 1) = q + 1 := by have := hq0.out; have := HXL.out; simp only [i64_w]; unfold wrap64; omega
            have p3 := eq_true hq0.out
            have q3 := eq_true hqc
            have HQC := Aside0.mk hqc
            have HPUT := Aside0.mk (hput (Go.bits .xor .u8 (rd y q) 255))
            clear hqc hput
            go_wp2
            go_roundg (gk - 1)
            case measure => have := HQC.out; have := hq0.out; omega
            case rel => exact ⟨q + 1, y.set q.toNat (Go.bits .xor .u8 (rd y q) 255), rfl, ⟨by have := hq0.out; omega⟩, ⟨by have := HQC.out; omega⟩, ⟨by have := HQC.out; omega⟩, ⟨HPUT.out.1⟩, ⟨HPUT.out.2⟩⟩
          · have e1 : decide (q < (x.length : Int)) = false := decide_eq_false hqc
            have S9 := Aside0.mk (hSq.out.take 2)
            clear hSq hqk hqkk
            rcases hbr with ⟨n, hn0, hn5, ⟨d3, rfl⟩ | ⟨d3, hbr⟩⟩
            · clear hn0 hn5
              go_wp2
              go_loopg [11] 7 (fun kq v11 w' => ∃ (k : Int) (M : List Int) (s : Bool), v11 = .int .i64 k ∧ Aside0 (0 ≤ k) ∧ Aside0 (k ≤ 5) ∧ Aside0 ((kq : Int) + k = 7) ∧ Aside0 (M.length ≤ 1048576) ∧ Aside0 (BI M) ∧ Aside0 (Sep w' w'.heap.size [tRF w.heap.size g M s, tRM w.heap.size gm M s]) ∧ Aside0 (Below w.heap.size w w'))
              case atStart => exact ⟨0, L', t, rfl, ⟨by decide⟩, ⟨by decide⟩, ⟨by decide⟩, hLl2, hLB2, S9, hBq⟩
              case round =>
                clear S9 hBq
                obtain ⟨k, M, s, rfl, hk0, hk5, hkk7, hMl, hMB, hS, hB⟩ := hrel
                obtain ⟨gI, hgI⟩ : ∃ gI, gI = gk := ⟨_, rfl⟩
                rw [← hgI] at hkk7
                have hkk7_ := hkk7.out
                by_cases hkn : k < 3
                · have f1 : decide (k < 3) = true := decide_eq_true hkn
                  have hwk : IntKind.i64.wrap (k + 1) = k + 1 := by have := hk0.out; have := hk5.out; simp only [i64_w]; unfold wrap64; omega
                  have HKN := Aside0.mk hkn
                  clear hkn
                  obtain ⟨⟨⟨bs, is, e⟩, M', s'⟩, hr⟩ : ∃ r, nextI M s = r := ⟨_, rfl⟩
                  have hnb := next_BI hMB.out s
                  have hnl := next_le M s
                  rw [hr] at hnb hnl
                  have HR := Aside0.mk hr
                  have HNB := Aside0.mk (show BI M' from hnb.2)
                  have HBB := Aside0.mk (show BI bs from hnb.1)
                  have HML := Aside0.mk (show M'.length ≤ 1048576 from by have := hnl.1; have := hMl.out; dsimp only at *; omega)
                  have HBL := Aside0.mk (show bs.length ≤ 1048576 from by have := hnl.2; have := hMl.out; dsimp only at *; omega)
                  have b1 : (is != is) = false := bne_self_eq_false is
                  have b2 : (e != e) = false := bne_self_eq_false e
                  have b3 : ((M'.length : Int) != (M'.length : Int)) = false := bne_self_eq_false _
                  clear hr hnb hnl
                  go_upto_region 20 with (first | (go_at_call 20; refine (Sep.next (w := w) hS.out 0 g M s rfl hB.out hMB.out hMl.out _ HR.out).mono ?_; rintro e_ w2 ⟨v2, rfl, ⟨Av, cv, rfl⟩, s2, hB2, _⟩) | (go_at_call 21; refine (Sep.nextM (w := w) s2 1 gm M s rfl hB2 hMB.out hMl.out _ HR.out).mono ?_; rintro e_ w3 ⟨Am, nm, cm, rfl, hnm, hCm, hcm, s3, hB3, _⟩; dsimp only at hnm; subst hnm))
                  obtain ⟨Ar, cr, hrow⟩ := s3.rowM 1 gm M' s' rfl
                  refine start_ (n := 24) (S := fun w' => w'.cell? ⟨gm, 0, none⟩ = some (.slice Ar M'.length cr)) (ds := []) #[false, false, false, false, false, false, false, false, false, false, false, false, false, false, false, false, false, false, false, false, false, false, false, false] (by kernel_rfl) rfl rfl (hrow) (fun hHeld => ?_)
                  generalize HW : w3.drew = w5 at hHeld ⊢
                  have s5 : Sep w5 w5.heap.size [tRF w.heap.size g M' s', tRM w.heap.size gm M' s', tB w.heap.size (.slice Av bs.length cv) bs] := by rw [← HW]; exact (s3.below (below_drew (Below.refl _ _))).now
                  have hB5 : Below w.heap.size w w5 := by rw [← HW]; exact below_drew hB3
                  have hCm5 : CB w5 Am bs.length bs := by rw [← HW]; exact Kd.C_drew hCm
                  clear s2 s3 hB2 hB3 hCm
                  refine pure_ (i := 0) (N := some 95) (v := ?_) (a' := ?_) #[true, false, false, false, false, false, false, false, false, false, false, false, false, false, false, false, false, false, false, false, false, false, false, false] rfl rfl (by kernel_rfl) (fun _ _ _ h => h) (Or.inl ⟨by rfl, ?_⟩) ?_ ?_
                  rotate_left
                  · intro w'
                    go_simp
                    with_reducible rfl
                  rotate_left
                  · simp only [Act.put, List.setIfInBounds_toArray, List.set_cons_zero, List.set_cons_succ, i64_w, i32_w]
                    rfl
                  refine pure_ (i := 1) (N := some 96) (v := ?_) (a' := ?_) #[true, true, false, false, false, false, false, false, false, false, false, false, false, false, false, false, false, false, false, false, false, false, false, false] rfl rfl (by kernel_rfl) (fun _ _ _ h => h) (Or.inl ⟨by rfl, ?_⟩) ?_ ?_
                  rotate_left
                  · intro w'
                    go_simp
                    with_reducible rfl
                  rotate_left
                  · simp only [Act.put, List.setIfInBounds_toArray, List.set_cons_zero, List.set_cons_succ, i64_w, i32_w]
                    rfl
                  refine one_ (i := 2) (N := some 97) #[true, true, true, false, false, false, false, false, false, false, false, false, false, false, false, false, false, false, false, false, false, false, false, false] rfl rfl (by kernel_rfl) (by decide) (fun K hK => ?_)
                  refine goes_ Try.func13 (by kernel_rfl) rfl #[.slice Av bs.length cv, .slice Am bs.length cm] (by rfl) rfl rfl (by simp only [List.map_toArray, List.map_cons, List.map_nil]; rfl) ?_
                  with_reducible refine (eq_n bs bs Av Am bs.length cv bs.length cm _ rfl (by have := HBL.out; omega) (s5.bytes 2 rfl).2.1 (s5.bytes 2 rfl).2.2 rfl hCm5 hcm).mono ?_
                  rintro e_ w6 ⟨he, hb6⟩
                  rw [decide_eq_true rfl] at he
                  subst he
                  have S6 := Aside0.mk (s5.below hb6).now
                  have hB6 := below_step hB5 hb6
                  refine ⟨_, rfl, ?_⟩
                  refine hK.out _ _ (((hb6.cell (World.block_lt_of_cell? _ _ hHeld)).trans hHeld)) (fun hHeld => ?_)
                  clear hK K
                  refine norm_ (a' := ?_) ?_ ?_
                  rotate_left
                  · show Act.put _ (some 97) _ = _
                    simp only [Act.put, List.setIfInBounds_toArray, List.set_cons_zero, List.set_cons_succ, i64_w, i32_w]
                    rfl
                  refine pure_ (i := 3) (N := some 98) (v := ?_) (a' := ?_) #[true, true, true, true, false, false, false, false, false, false, false, false, false, false, false, false, false, false, false, false, false, false, false, false] rfl rfl (by kernel_rfl) (fun _ _ _ h => h) (Or.inl ⟨by rfl, ?_⟩) ?_ ?_
                  rotate_left
                  · intro w'
                    go_simp
                    with_reducible rfl
                  rotate_left
                  · simp only [Act.put, List.setIfInBounds_toArray, List.set_cons_zero, List.set_cons_succ, i64_w, i32_w]
                    rfl
                  refine pure_ (i := 4) (N := some 99) (v := ?_) (a' := ?_) #[true, true, true, true, true, false, false, false, false, false, false, false, false, false, false, false, false, false, false, false, false, false, false, false] rfl rfl (by kernel_rfl) (fun _ _ _ h => h) (Or.inl ⟨by rfl, ?_⟩) ?_ ?_
                  rotate_left
                  · intro w'
                    go_simp
                    with_reducible rfl
                  rotate_left
                  · simp only [Act.put, List.setIfInBounds_toArray, List.set_cons_zero, List.set_cons_succ, i64_w, i32_w]
                    rfl
                  refine pure_ (i := 5) (N := some 100) (v := ?_) (a' := ?_) #[true, true, true, true, true, true, false, false, false, false, false, false, false, false, false, false, false, false, false, false, false, false, false, false] rfl rfl (by kernel_rfl) (fun _ _ _ h => h) (Or.inl ⟨by rfl, ?_⟩) ?_ ?_
                  rotate_left
                  · intro w'
                    go_simp
                    with_reducible rfl
                  rotate_left
                  · simp only [Act.put, List.setIfInBounds_toArray, List.set_cons_zero, List.set_cons_succ, i64_w, i32_w]
                    rfl
                  refine pure_ (i := 6) (N := some 101) (v := ?_) (a' := ?_) #[true, true, true, true, true, true, true, false, false, false, false, false, false, false, false, false, false, false, false, false, false, false, false, false] rfl rfl (by kernel_rfl) (fun _ _ _ h => h) (Or.inl ⟨by rfl, ?_⟩) ?_ ?_
                  rotate_left
                  · intro w'
                    go_simp
                    with_reducible rfl
                  rotate_left
                  · simp only [Act.put, List.setIfInBounds_toArray, List.set_cons_zero, List.set_cons_succ, i64_w, i32_w]
                    rfl
                  refine pure_ (i := 7) (N := some 102) (v := ?_) (a' := ?_) #[true, true, true, true, true, true, true, true, false, false, false, false, false, false, false, false, false, false, false, false, false, false, false, false] rfl rfl (by kernel_rfl) (fun _ _ _ h => h) (Or.inl ⟨by rfl, ?_⟩) ?_ ?_
                  rotate_left
                  · intro w'
                    go_simp
                    with_reducible rfl
                  rotate_left
                  · simp only [Act.put, List.setIfInBounds_toArray, List.set_cons_zero, List.set_cons_succ, i64_w, i32_w]
                    rfl
                  refine pure_ (i := 8) (N := some 103) (v := ?_) (a' := ?_) #[true, true, true, true, true, true, true, true, true, false, false, false, false, false, false, false, false, false, false, false, false, false, false, false] rfl rfl (by kernel_rfl) (fun _ _ _ h => h) (Or.inl ⟨by rfl, ?_⟩) ?_ ?_
                  rotate_left
                  · intro w'
                    go_simp
                    with_reducible rfl
                  rotate_left
                  · simp only [Act.put, List.setIfInBounds_toArray, List.set_cons_zero, List.set_cons_succ, i64_w, i32_w]
                    rfl
                  refine pure_ (i := 9) (N := some 104) (v := ?_) (a' := ?_) #[true, true, true, true, true, true, true, true, true, true, false, false, false, false, false, false, false, false, false, false, false, false, false, false] rfl rfl (by kernel_rfl) (fun _ _ _ h => h) (Or.inl ⟨by rfl, ?_⟩) ?_ ?_
                  rotate_left
                  · intro w'
                    go_simp
                    with_reducible rfl
                  rotate_left
                  · simp only [Act.put, List.setIfInBounds_toArray, List.set_cons_zero, List.set_cons_succ, i64_w, i32_w]
                    rfl
                  refine pure_ (i := 10) (N := some 105) (v := ?_) (a' := ?_) #[true, true, true, true, true, true, true, true, true, true, true, false, false, false, false, false, false, false, false, false, false, false, false, false] rfl rfl (by kernel_rfl) (fun _ _ _ h => h) (Or.inl ⟨by rfl, ?_⟩) ?_ ?_
                  rotate_left
                  · intro w'
                    go_simp
                    with_reducible rfl
                  rotate_left
                  · simp only [Act.put, List.setIfInBounds_toArray, List.set_cons_zero, List.set_cons_succ, i64_w, i32_w]
                    rfl
                  refine pure_ (i := 11) (N := some 106) (v := ?_) (a' := ?_) #[true, true, true, true, true, true, true, true, true, true, true, true, false, false, false, false, false, false, false, false, false, false, false, false] rfl rfl (by kernel_rfl) (fun _ _ _ h => h) (Or.inl ⟨by rfl, ?_⟩) ?_ ?_
                  rotate_left
                  · intro w'
                    go_simp
                    with_reducible rfl
                  rotate_left
                  · simp only [Act.put, List.setIfInBounds_toArray, List.set_cons_zero, List.set_cons_succ, i64_w, i32_w]
                    rfl
                  refine pure_ (i := 12) (N := some 107) (v := ?_) (a' := ?_) #[true, true, true, true, true, true, true, true, true, true, true, true, true, false, false, false, false, false, false, false, false, false, false, false] rfl rfl (by kernel_rfl) (fun _ _ _ h => h) (Or.inl ⟨by rfl, ?_⟩) ?_ ?_
                  rotate_left
                  · intro w'
                    go_simp
                    with_reducible rfl
                  rotate_left
                  · simp only [Act.put, List.setIfInBounds_toArray, List.set_cons_zero, List.set_cons_succ, i64_w, i32_w]
                    rfl
                  refine pure_ (i := 13) (N := some 108) (v := ?_) (a' := ?_) #[true, true, true, true, true, true, true, true, true, true, true, true, true, true, false, false, false, false, false, false, false, false, false, false] rfl rfl (by kernel_rfl) (fun _ _ _ h => h) (Or.inl ⟨by rfl, ?_⟩) ?_ ?_
                  rotate_left
                  · intro w'
                    go_simp
                    with_reducible rfl
                  rotate_left
                  · simp only [Act.put, List.setIfInBounds_toArray, List.set_cons_zero, List.set_cons_succ, i64_w, i32_w]
                    rfl
                  refine pure_ (i := 14) (N := some 109) (v := ?_) (a' := ?_) #[true, true, true, true, true, true, true, true, true, true, true, true, true, true, true, false, false, false, false, false, false, false, false, false] rfl rfl (by kernel_rfl) (fun _ _ _ h => h) (Or.inl ⟨by rfl, ?_⟩) ?_ ?_
                  rotate_left
                  · intro w'
                    go_simp
                    with_reducible rfl
                  rotate_left
                  · simp only [Act.put, List.setIfInBounds_toArray, List.set_cons_zero, List.set_cons_succ, i64_w, i32_w]
                    rfl
                  refine pure_ (i := 15) (N := some 110) (v := ?_) (a' := ?_) #[true, true, true, true, true, true, true, true, true, true, true, true, true, true, true, true, false, false, false, false, false, false, false, false] rfl rfl (by kernel_rfl) (fun _ _ _ h => h) (Or.inl ⟨by rfl, ?_⟩) ?_ ?_
                  rotate_left
                  · intro w'
                    go_simp
                    with_reducible rfl
                  rotate_left
                  · simp only [Act.put, List.setIfInBounds_toArray, List.set_cons_zero, List.set_cons_succ, i64_w, i32_w]
                    rfl
                  refine pure_ (i := 17) (N := some 112) (v := ?_) (a' := ?_) #[true, true, true, true, true, true, true, true, true, true, true, true, true, true, true, true, false, true, false, false, false, false, false, false] rfl rfl (by kernel_rfl) (fun _ _ _ h => h) (Or.inl ⟨by rfl, ?_⟩) ?_ ?_
                  rotate_left
                  · intro w'
                    go_simp
                    with_reducible rfl
                  rotate_left
                  · simp only [Act.put, List.setIfInBounds_toArray, List.set_cons_zero, List.set_cons_succ, i64_w, i32_w]
                    rfl
                  refine pure_ (i := 18) (N := some 113) (v := ?_) (a' := ?_) #[true, true, true, true, true, true, true, true, true, true, true, true, true, true, true, true, false, true, true, false, false, false, false, false] rfl rfl (by kernel_rfl) (fun _ _ _ h => h) (Or.inl ⟨by rfl, ?_⟩) ?_ ?_
                  rotate_left
                  · intro w'
                    go_simp
                    with_reducible rfl
                  rotate_left
                  · simp only [Act.put, List.setIfInBounds_toArray, List.set_cons_zero, List.set_cons_succ, i64_w, i32_w]
                    rfl
                  refine pure_ (i := 19) (N := some 114) (v := ?_) (a' := ?_) #[true, true, true, true, true, true, true, true, true, true, true, true, true, true, true, true, false, true, true, true, false, false, false, false] rfl rfl (by kernel_rfl) (fun _ _ _ h => h) (Or.inl ⟨by rfl, ?_⟩) ?_ ?_
                  rotate_left
                  · intro w'
                    go_simp
                    with_reducible rfl
                  rotate_left
                  · simp only [Act.put, List.setIfInBounds_toArray, List.set_cons_zero, List.set_cons_succ, i64_w, i32_w]
                    rfl
                  refine take_ (i := 20) (N := some 115) (v := ?_) (a' := ?_) #[true, true, true, true, true, true, true, true, true, true, true, true, true, true, true, true, false, true, true, true, true, false, false, false] rfl rfl (by kernel_rfl) (fun _ _ _ h => h) (Or.inl ⟨by rfl, ?_⟩) hHeld ?_ ?_
                  rotate_left
                  · intro w' s0
                    go_simp
                    with_reducible rfl
                  rotate_left
                  · simp only [Act.put, List.setIfInBounds_toArray, List.set_cons_zero, List.set_cons_succ, i64_w, i32_w]
                    rfl
                  refine pure_ (i := 21) (N := some 116) (v := ?_) (a' := ?_) #[true, true, true, true, true, true, true, true, true, true, true, true, true, true, true, true, false, true, true, true, true, true, false, false] rfl rfl (by kernel_rfl) (fun _ _ _ h => h) (Or.inl ⟨by rfl, ?_⟩) ?_ ?_
                  rotate_left
                  · intro w'
                    go_simp
                    with_reducible rfl
                  rotate_left
                  · simp only [Act.put, List.setIfInBounds_toArray, List.set_cons_zero, List.set_cons_succ, i64_w, i32_w]
                    rfl
                  refine one_ (i := 16) (N := some 111) #[true, true, true, true, true, true, true, true, true, true, true, true, true, true, true, true, true, true, true, true, true, true, false, false] rfl rfl (by kernel_rfl) (by decide) (fun K hK => ?_)
                  refine goes_ Try.func22 (by kernel_rfl) rfl #[.pointer (some ⟨g, 0, none⟩)] (by rfl) rfl rfl (by simp only [List.map_toArray, List.map_cons, List.map_nil]; rfl) ?_
                  with_reducible refine (Sep.waits (w := w) S6.out 0 g M' s' rfl).mono ?_
                  rintro e_ w7 ⟨rfl, rfl⟩
                  refine ⟨_, rfl, ?_⟩
                  refine hK.out _ _ (hHeld) (fun hHeld => ?_)
                  clear hK K
                  refine norm_ (a' := ?_) ?_ ?_
                  rotate_left
                  · show Act.put _ (some 111) _ = _
                    simp only [Act.put, List.setIfInBounds_toArray, List.set_cons_zero, List.set_cons_succ, i64_w, i32_w]
                    rfl
                  refine pure_ (i := 22) (N := some 117) (v := ?_) (a' := ?_) #[true, true, true, true, true, true, true, true, true, true, true, true, true, true, true, true, true, true, true, true, true, true, true, false] rfl rfl (by kernel_rfl) (fun _ _ _ h => h) (Or.inl ⟨by rfl, ?_⟩) ?_ ?_
                  rotate_left
                  · intro w'
                    go_simp
                    with_reducible rfl
                  rotate_left
                  · simp only [Act.put, List.setIfInBounds_toArray, List.set_cons_zero, List.set_cons_succ, i64_w, i32_w]
                    rfl
                  refine pure_ (i := 23) (N := some 118) (v := ?_) (a' := ?_) #[true, true, true, true, true, true, true, true, true, true, true, true, true, true, true, true, true, true, true, true, true, true, true, true] rfl rfl (by kernel_rfl) (fun _ _ _ h => h) (Or.inl ⟨by rfl, ?_⟩) ?_ ?_
                  rotate_left
                  · intro w'
                    go_simp
                    with_reducible rfl
                  rotate_left
                  · simp only [Act.put, List.setIfInBounds_toArray, List.set_cons_zero, List.set_cons_succ, i64_w, i32_w]
                    rfl
                  refine done_ (by kernel_rfl) ?_
                  clear hHeld
                  have HB6 := Aside0.mk hB6
                  clear hB6 b1 b2 b3 f1
                  go_wp2
                  go_loopg [18] (bs.length + 1) (fun kq v18 w' => ∃ (q : Int) (y : List Int), v18 = .int .i64 q ∧ Aside0 (0 ≤ q) ∧ Aside0 (q ≤ (bs.length : Int)) ∧ Aside0 ((kq : Int) + q = (bs.length : Int) + 1) ∧ Aside0 (Sep w' w'.heap.size [tRF w.heap.size g M' s', tRM w.heap.size gm M' s', tB w.heap.size (.slice Av bs.length cv) y]) ∧ Aside0 (Below w.heap.size w w'))
                  case atStart => exact ⟨0, bs, rfl, ⟨by decide⟩, ⟨by omega⟩, ⟨by omega⟩, S6, HB6⟩
                  case round =>
                    obtain ⟨q, y, rfl, hq0, hqx, hqk, hSq, hBq⟩ := hrel
                    clear S6 HB6
                    have hqkk := hqk.out
                    by_cases hqc : q < (bs.length : Int)
                    · have e1 : decide (q < (bs.length : Int)) = true := decide_eq_true hqc
                      obtain ⟨gf, hgf⟩ := Sep.form hSq.out 2 rfl (by have := hq0.out; omega)
                      subst hgf
                      obtain ⟨hcell, hfr, hput⟩ := Sep.put (w := w) hSq.out 2 rfl hBq.out q hq0.out hqc
                      have hwq : IntKind.i64.wrap (q + 1) = q + 1 := by have := hq0.out; have := HBL.out; simp only [i64_w]; unfold wrap64; omega
                      have p3 := eq_true hq0.out
                      have q3 := eq_true hqc
                      have HQC := Aside0.mk hqc
                      have HPUT := Aside0.mk (hput 0)
                      clear hqc hput
                      go_wp2
                      go_roundg (gk - 1)
                      case measure => have := HQC.out; have := hq0.out; omega
                      case rel => exact ⟨q + 1, y.set q.toNat 0, rfl, ⟨by have := hq0.out; omega⟩, ⟨by have := HQC.out; omega⟩, ⟨by have := HQC.out; omega⟩, ⟨HPUT.out.1⟩, ⟨HPUT.out.2⟩⟩
                    · have e1 : decide (q < (bs.length : Int)) = false := decide_eq_false hqc
                      have S9 := Aside0.mk (hSq.out.take 2)
                      clear hSq hqk hqkk
                      go_wp2
                      go_roundg (gI - 1)
                      case measure => have := HKN.out; have := hk0.out; have := hk5.out; skip; omega
                      case rel => exact ⟨k + 1, M', s', rfl, ⟨by have := hk0.out; omega⟩, ⟨by have := HKN.out; skip; omega⟩, ⟨by have := HKN.out; have := hk5.out; omega⟩, HML, HNB, S9, hBq⟩
                · have f1 : decide (k < 3) = false := decide_eq_false hkn
                  go_wp2
                  go_roundg (gO - 1)
                  case measure => have := HC.out.2; have := hi0.out; omega
                  case rel => exact ⟨i + 1, M, s, rfl, ⟨by have := hi0.out; omega⟩, ⟨by have := HC.out.2; omega⟩, hMl, hMB, hS, hB⟩
            · obtain ⟨ada, ea, hxa⟩ := Kd.at_int (Kd.C_belowB hr1 hBq.out rfl) i hi0.out (of_decide_eq_true d3)
              subst ea
              have q4 := eq_true (of_decide_eq_true d3)
              have HN5 := Aside0.mk hn5
              clear hn0 hn5
              go_wp2_with (first | (go_at_call 19; refine (incunableref00_Bring.calls _ _ _ _ hbr).mono ?_; rintro e w2 ⟨rfl, hd2⟩; replace S9 := Aside0.mk (S9.out.below hd2.below).now; replace hBq := Aside0.mk (below_step hBq.out hd2.below)))
              clear hd2 hxa
              go_loopg [11] 7 (fun kq v11 w' => ∃ (k : Int) (M : List Int) (s : Bool), v11 = .int .i64 k ∧ Aside0 (0 ≤ k) ∧ Aside0 (k ≤ 5) ∧ Aside0 ((kq : Int) + k = 7) ∧ Aside0 (M.length ≤ 1048576) ∧ Aside0 (BI M) ∧ Aside0 (Sep w' w'.heap.size [tRF w.heap.size g M s, tRM w.heap.size gm M s]) ∧ Aside0 (Below w.heap.size w w'))
              case atStart => exact ⟨0, L', t, rfl, ⟨by decide⟩, ⟨by decide⟩, ⟨by decide⟩, hLl2, hLB2, S9, hBq⟩
              case round =>
                clear S9 hBq
                obtain ⟨k, M, s, rfl, hk0, hk5, hkk7, hMl, hMB, hS, hB⟩ := hrel
                obtain ⟨gI, hgI⟩ : ∃ gI, gI = gk := ⟨_, rfl⟩
                rw [← hgI] at hkk7
                have hkk7_ := hkk7.out
                by_cases hkn : k < n
                · have f1 : decide (k < n) = true := decide_eq_true hkn
                  have hwk : IntKind.i64.wrap (k + 1) = k + 1 := by have := hk0.out; have := hk5.out; simp only [i64_w]; unfold wrap64; omega
                  have HKN := Aside0.mk hkn
                  clear hkn
                  obtain ⟨⟨⟨bs, is, e⟩, M', s'⟩, hr⟩ : ∃ r, nextI M s = r := ⟨_, rfl⟩
                  have hnb := next_BI hMB.out s
                  have hnl := next_le M s
                  rw [hr] at hnb hnl
                  have HR := Aside0.mk hr
                  have HNB := Aside0.mk (show BI M' from hnb.2)
                  have HBB := Aside0.mk (show BI bs from hnb.1)
                  have HML := Aside0.mk (show M'.length ≤ 1048576 from by have := hnl.1; have := hMl.out; dsimp only at *; omega)
                  have HBL := Aside0.mk (show bs.length ≤ 1048576 from by have := hnl.2; have := hMl.out; dsimp only at *; omega)
                  have b1 : (is != is) = false := bne_self_eq_false is
                  have b2 : (e != e) = false := bne_self_eq_false e
                  have b3 : ((M'.length : Int) != (M'.length : Int)) = false := bne_self_eq_false _
                  clear hr hnb hnl
                  go_upto_region 20 with (first | (go_at_call 20; refine (Sep.next (w := w) hS.out 0 g M s rfl hB.out hMB.out hMl.out _ HR.out).mono ?_; rintro e_ w2 ⟨v2, rfl, ⟨Av, cv, rfl⟩, s2, hB2, _⟩) | (go_at_call 21; refine (Sep.nextM (w := w) s2 1 gm M s rfl hB2 hMB.out hMl.out _ HR.out).mono ?_; rintro e_ w3 ⟨Am, nm, cm, rfl, hnm, hCm, hcm, s3, hB3, _⟩; dsimp only at hnm; subst hnm))
                  obtain ⟨Ar, cr, hrow⟩ := s3.rowM 1 gm M' s' rfl
                  refine start_ (n := 24) (S := fun w' => w'.cell? ⟨gm, 0, none⟩ = some (.slice Ar M'.length cr)) (ds := []) #[false, false, false, false, false, false, false, false, false, false, false, false, false, false, false, false, false, false, false, false, false, false, false, false] (by kernel_rfl) rfl rfl (hrow) (fun hHeld => ?_)
                  generalize HW : w3.drew = w5 at hHeld ⊢
                  have s5 : Sep w5 w5.heap.size [tRF w.heap.size g M' s', tRM w.heap.size gm M' s', tB w.heap.size (.slice Av bs.length cv) bs] := by rw [← HW]; exact (s3.below (below_drew (Below.refl _ _))).now
                  have hB5 : Below w.heap.size w w5 := by rw [← HW]; exact below_drew hB3
                  have hCm5 : CB w5 Am bs.length bs := by rw [← HW]; exact Kd.C_drew hCm
                  clear s2 s3 hB2 hB3 hCm
                  refine pure_ (i := 0) (N := some 95) (v := ?_) (a' := ?_) #[true, false, false, false, false, false, false, false, false, false, false, false, false, false, false, false, false, false, false, false, false, false, false, false] rfl rfl (by kernel_rfl) (fun _ _ _ h => h) (Or.inl ⟨by rfl, ?_⟩) ?_ ?_
                  rotate_left
                  · intro w'
                    go_simp
                    with_reducible rfl
                  rotate_left
                  · simp only [Act.put, List.setIfInBounds_toArray, List.set_cons_zero, List.set_cons_succ, i64_w, i32_w]
                    rfl
                  refine pure_ (i := 1) (N := some 96) (v := ?_) (a' := ?_) #[true, true, false, false, false, false, false, false, false, false, false, false, false, false, false, false, false, false, false, false, false, false, false, false] rfl rfl (by kernel_rfl) (fun _ _ _ h => h) (Or.inl ⟨by rfl, ?_⟩) ?_ ?_
                  rotate_left
                  · intro w'
                    go_simp
                    with_reducible rfl
                  rotate_left
                  · simp only [Act.put, List.setIfInBounds_toArray, List.set_cons_zero, List.set_cons_succ, i64_w, i32_w]
                    rfl
                  refine one_ (i := 2) (N := some 97) #[true, true, true, false, false, false, false, false, false, false, false, false, false, false, false, false, false, false, false, false, false, false, false, false] rfl rfl (by kernel_rfl) (by decide) (fun K hK => ?_)
                  refine goes_ Try.func13 (by kernel_rfl) rfl #[.slice Av bs.length cv, .slice Am bs.length cm] (by rfl) rfl rfl (by simp only [List.map_toArray, List.map_cons, List.map_nil]; rfl) ?_
                  with_reducible refine (eq_n bs bs Av Am bs.length cv bs.length cm _ rfl (by have := HBL.out; omega) (s5.bytes 2 rfl).2.1 (s5.bytes 2 rfl).2.2 rfl hCm5 hcm).mono ?_
                  rintro e_ w6 ⟨he, hb6⟩
                  rw [decide_eq_true rfl] at he
                  subst he
                  have S6 := Aside0.mk (s5.below hb6).now
                  have hB6 := below_step hB5 hb6
                  refine ⟨_, rfl, ?_⟩
                  refine hK.out _ _ (((hb6.cell (World.block_lt_of_cell? _ _ hHeld)).trans hHeld)) (fun hHeld => ?_)
                  clear hK K
                  refine norm_ (a' := ?_) ?_ ?_
                  rotate_left
                  · show Act.put _ (some 97) _ = _
                    simp only [Act.put, List.setIfInBounds_toArray, List.set_cons_zero, List.set_cons_succ, i64_w, i32_w]
                    rfl
                  refine pure_ (i := 3) (N := some 98) (v := ?_) (a' := ?_) #[true, true, true, true, false, false, false, false, false, false, false, false, false, false, false, false, false, false, false, false, false, false, false, false] rfl rfl (by kernel_rfl) (fun _ _ _ h => h) (Or.inl ⟨by rfl, ?_⟩) ?_ ?_
                  rotate_left
                  · intro w'
                    go_simp
                    with_reducible rfl
                  rotate_left
                  · simp only [Act.put, List.setIfInBounds_toArray, List.set_cons_zero, List.set_cons_succ, i64_w, i32_w]
                    rfl
                  refine pure_ (i := 4) (N := some 99) (v := ?_) (a' := ?_) #[true, true, true, true, true, false, false, false, false, false, false, false, false, false, false, false, false, false, false, false, false, false, false, false] rfl rfl (by kernel_rfl) (fun _ _ _ h => h) (Or.inl ⟨by rfl, ?_⟩) ?_ ?_
                  rotate_left
                  · intro w'
                    go_simp
                    with_reducible rfl
                  rotate_left
                  · simp only [Act.put, List.setIfInBounds_toArray, List.set_cons_zero, List.set_cons_succ, i64_w, i32_w]
                    rfl
                  refine pure_ (i := 5) (N := some 100) (v := ?_) (a' := ?_) #[true, true, true, true, true, true, false, false, false, false, false, false, false, false, false, false, false, false, false, false, false, false, false, false] rfl rfl (by kernel_rfl) (fun _ _ _ h => h) (Or.inl ⟨by rfl, ?_⟩) ?_ ?_
                  rotate_left
                  · intro w'
                    go_simp
                    with_reducible rfl
                  rotate_left
                  · simp only [Act.put, List.setIfInBounds_toArray, List.set_cons_zero, List.set_cons_succ, i64_w, i32_w]
                    rfl
                  refine pure_ (i := 6) (N := some 101) (v := ?_) (a' := ?_) #[true, true, true, true, true, true, true, false, false, false, false, false, false, false, false, false, false, false, false, false, false, false, false, false] rfl rfl (by kernel_rfl) (fun _ _ _ h => h) (Or.inl ⟨by rfl, ?_⟩) ?_ ?_
                  rotate_left
                  · intro w'
                    go_simp
                    with_reducible rfl
                  rotate_left
                  · simp only [Act.put, List.setIfInBounds_toArray, List.set_cons_zero, List.set_cons_succ, i64_w, i32_w]
                    rfl
                  refine pure_ (i := 7) (N := some 102) (v := ?_) (a' := ?_) #[true, true, true, true, true, true, true, true, false, false, false, false, false, false, false, false, false, false, false, false, false, false, false, false] rfl rfl (by kernel_rfl) (fun _ _ _ h => h) (Or.inl ⟨by rfl, ?_⟩) ?_ ?_
                  rotate_left
                  · intro w'
                    go_simp
                    with_reducible rfl
                  rotate_left
                  · simp only [Act.put, List.setIfInBounds_toArray, List.set_cons_zero, List.set_cons_succ, i64_w, i32_w]
                    rfl
                  refine pure_ (i := 8) (N := some 103) (v := ?_) (a' := ?_) #[true, true, true, true, true, true, true, true, true, false, false, false, false, false, false, false, false, false, false, false, false, false, false, false] rfl rfl (by kernel_rfl) (fun _ _ _ h => h) (Or.inl ⟨by rfl, ?_⟩) ?_ ?_
                  rotate_left
                  · intro w'
                    go_simp
                    with_reducible rfl
                  rotate_left
                  · simp only [Act.put, List.setIfInBounds_toArray, List.set_cons_zero, List.set_cons_succ, i64_w, i32_w]
                    rfl
                  refine pure_ (i := 9) (N := some 104) (v := ?_) (a' := ?_) #[true, true, true, true, true, true, true, true, true, true, false, false, false, false, false, false, false, false, false, false, false, false, false, false] rfl rfl (by kernel_rfl) (fun _ _ _ h => h) (Or.inl ⟨by rfl, ?_⟩) ?_ ?_
                  rotate_left
                  · intro w'
                    go_simp
                    with_reducible rfl
                  rotate_left
                  · simp only [Act.put, List.setIfInBounds_toArray, List.set_cons_zero, List.set_cons_succ, i64_w, i32_w]
                    rfl
                  refine pure_ (i := 10) (N := some 105) (v := ?_) (a' := ?_) #[true, true, true, true, true, true, true, true, true, true, true, false, false, false, false, false, false, false, false, false, false, false, false, false] rfl rfl (by kernel_rfl) (fun _ _ _ h => h) (Or.inl ⟨by rfl, ?_⟩) ?_ ?_
                  rotate_left
                  · intro w'
                    go_simp
                    with_reducible rfl
                  rotate_left
                  · simp only [Act.put, List.setIfInBounds_toArray, List.set_cons_zero, List.set_cons_succ, i64_w, i32_w]
                    rfl
                  refine pure_ (i := 11) (N := some 106) (v := ?_) (a' := ?_) #[true, true, true, true, true, true, true, true, true, true, true, true, false, false, false, false, false, false, false, false, false, false, false, false] rfl rfl (by kernel_rfl) (fun _ _ _ h => h) (Or.inl ⟨by rfl, ?_⟩) ?_ ?_
                  rotate_left
                  · intro w'
                    go_simp
                    with_reducible rfl
                  rotate_left
                  · simp only [Act.put, List.setIfInBounds_toArray, List.set_cons_zero, List.set_cons_succ, i64_w, i32_w]
                    rfl
                  refine pure_ (i := 12) (N := some 107) (v := ?_) (a' := ?_) #[true, true, true, true, true, true, true, true, true, true, true, true, true, false, false, false, false, false, false, false, false, false, false, false] rfl rfl (by kernel_rfl) (fun _ _ _ h => h) (Or.inl ⟨by rfl, ?_⟩) ?_ ?_
                  rotate_left
                  · intro w'
                    go_simp
                    with_reducible rfl
                  rotate_left
                  · simp only [Act.put, List.setIfInBounds_toArray, List.set_cons_zero, List.set_cons_succ, i64_w, i32_w]
                    rfl
                  refine pure_ (i := 13) (N := some 108) (v := ?_) (a' := ?_) #[true, true, true, true, true, true, true, true, true, true, true, true, true, true, false, false, false, false, false, false, false, false, false, false] rfl rfl (by kernel_rfl) (fun _ _ _ h => h) (Or.inl ⟨by rfl, ?_⟩) ?_ ?_
                  rotate_left
                  · intro w'
                    go_simp
                    with_reducible rfl
                  rotate_left
                  · simp only [Act.put, List.setIfInBounds_toArray, List.set_cons_zero, List.set_cons_succ, i64_w, i32_w]
                    rfl
                  refine pure_ (i := 14) (N := some 109) (v := ?_) (a' := ?_) #[true, true, true, true, true, true, true, true, true, true, true, true, true, true, true, false, false, false, false, false, false, false, false, false] rfl rfl (by kernel_rfl) (fun _ _ _ h => h) (Or.inl ⟨by rfl, ?_⟩) ?_ ?_
                  rotate_left
                  · intro w'
                    go_simp
                    with_reducible rfl
                  rotate_left
                  · simp only [Act.put, List.setIfInBounds_toArray, List.set_cons_zero, List.set_cons_succ, i64_w, i32_w]
                    rfl
                  refine pure_ (i := 15) (N := some 110) (v := ?_) (a' := ?_) #[true, true, true, true, true, true, true, true, true, true, true, true, true, true, true, true, false, false, false, false, false, false, false, false] rfl rfl (by kernel_rfl) (fun _ _ _ h => h) (Or.inl ⟨by rfl, ?_⟩) ?_ ?_
                  rotate_left
                  · intro w'
                    go_simp
                    with_reducible rfl
                  rotate_left
                  · simp only [Act.put, List.setIfInBounds_toArray, List.set_cons_zero, List.set_cons_succ, i64_w, i32_w]
                    rfl
                  refine pure_ (i := 17) (N := some 112) (v := ?_) (a' := ?_) #[true, true, true, true, true, true, true, true, true, true, true, true, true, true, true, true, false, true, false, false, false, false, false, false] rfl rfl (by kernel_rfl) (fun _ _ _ h => h) (Or.inl ⟨by rfl, ?_⟩) ?_ ?_
                  rotate_left
                  · intro w'
                    go_simp
                    with_reducible rfl
                  rotate_left
                  · simp only [Act.put, List.setIfInBounds_toArray, List.set_cons_zero, List.set_cons_succ, i64_w, i32_w]
                    rfl
                  refine pure_ (i := 18) (N := some 113) (v := ?_) (a' := ?_) #[true, true, true, true, true, true, true, true, true, true, true, true, true, true, true, true, false, true, true, false, false, false, false, false] rfl rfl (by kernel_rfl) (fun _ _ _ h => h) (Or.inl ⟨by rfl, ?_⟩) ?_ ?_
                  rotate_left
                  · intro w'
                    go_simp
                    with_reducible rfl
                  rotate_left
                  · simp only [Act.put, List.setIfInBounds_toArray, List.set_cons_zero, List.set_cons_succ, i64_w, i32_w]
                    rfl
                  refine pure_ (i := 19) (N := some 114) (v := ?_) (a' := ?_) #[true, true, true, true, true, true, true, true, true, true, true, true, true, true, true, true, false, true, true, true, false, false, false, false] rfl rfl (by kernel_rfl) (fun _ _ _ h => h) (Or.inl ⟨by rfl, ?_⟩) ?_ ?_
                  rotate_left
                  · intro w'
                    go_simp
                    with_reducible rfl
                  rotate_left
                  · simp only [Act.put, List.setIfInBounds_toArray, List.set_cons_zero, List.set_cons_succ, i64_w, i32_w]
                    rfl
                  refine take_ (i := 20) (N := some 115) (v := ?_) (a' := ?_) #[true, true, true, true, true, true, true, true, true, true, true, true, true, true, true, true, false, true, true, true, true, false, false, false] rfl rfl (by kernel_rfl) (fun _ _ _ h => h) (Or.inl ⟨by rfl, ?_⟩) hHeld ?_ ?_
                  rotate_left
                  · intro w' s0
                    go_simp
                    with_reducible rfl
                  rotate_left
                  · simp only [Act.put, List.setIfInBounds_toArray, List.set_cons_zero, List.set_cons_succ, i64_w, i32_w]
                    rfl
                  refine pure_ (i := 21) (N := some 116) (v := ?_) (a' := ?_) #[true, true, true, true, true, true, true, true, true, true, true, true, true, true, true, true, false, true, true, true, true, true, false, false] rfl rfl (by kernel_rfl) (fun _ _ _ h => h) (Or.inl ⟨by rfl, ?_⟩) ?_ ?_
                  rotate_left
                  · intro w'
                    go_simp
                    with_reducible rfl
                  rotate_left
                  · simp only [Act.put, List.setIfInBounds_toArray, List.set_cons_zero, List.set_cons_succ, i64_w, i32_w]
                    rfl
                  refine one_ (i := 16) (N := some 111) #[true, true, true, true, true, true, true, true, true, true, true, true, true, true, true, true, true, true, true, true, true, true, false, false] rfl rfl (by kernel_rfl) (by decide) (fun K hK => ?_)
                  refine goes_ Try.func22 (by kernel_rfl) rfl #[.pointer (some ⟨g, 0, none⟩)] (by rfl) rfl rfl (by simp only [List.map_toArray, List.map_cons, List.map_nil]; rfl) ?_
                  with_reducible refine (Sep.waits (w := w) S6.out 0 g M' s' rfl).mono ?_
                  rintro e_ w7 ⟨rfl, rfl⟩
                  refine ⟨_, rfl, ?_⟩
                  refine hK.out _ _ (hHeld) (fun hHeld => ?_)
                  clear hK K
                  refine norm_ (a' := ?_) ?_ ?_
                  rotate_left
                  · show Act.put _ (some 111) _ = _
                    simp only [Act.put, List.setIfInBounds_toArray, List.set_cons_zero, List.set_cons_succ, i64_w, i32_w]
                    rfl
                  refine pure_ (i := 22) (N := some 117) (v := ?_) (a' := ?_) #[true, true, true, true, true, true, true, true, true, true, true, true, true, true, true, true, true, true, true, true, true, true, true, false] rfl rfl (by kernel_rfl) (fun _ _ _ h => h) (Or.inl ⟨by rfl, ?_⟩) ?_ ?_
                  rotate_left
                  · intro w'
                    go_simp
                    with_reducible rfl
                  rotate_left
                  · simp only [Act.put, List.setIfInBounds_toArray, List.set_cons_zero, List.set_cons_succ, i64_w, i32_w]
                    rfl
                  refine pure_ (i := 23) (N := some 118) (v := ?_) (a' := ?_) #[true, true, true, true, true, true, true, true, true, true, true, true, true, true, true, true, true, true, true, true, true, true, true, true] rfl rfl (by kernel_rfl) (fun _ _ _ h => h) (Or.inl ⟨by rfl, ?_⟩) ?_ ?_
                  rotate_left
                  · intro w'
                    go_simp
                    with_reducible rfl
                  rotate_left
                  · simp only [Act.put, List.setIfInBounds_toArray, List.set_cons_zero, List.set_cons_succ, i64_w, i32_w]
                    rfl
                  refine done_ (by kernel_rfl) ?_
                  clear hHeld
                  have HB6 := Aside0.mk hB6
                  clear hB6 b1 b2 b3 f1
                  go_wp2
                  go_loopg [18] (bs.length + 1) (fun kq v18 w' => ∃ (q : Int) (y : List Int), v18 = .int .i64 q ∧ Aside0 (0 ≤ q) ∧ Aside0 (q ≤ (bs.length : Int)) ∧ Aside0 ((kq : Int) + q = (bs.length : Int) + 1) ∧ Aside0 (Sep w' w'.heap.size [tRF w.heap.size g M' s', tRM w.heap.size gm M' s', tB w.heap.size (.slice Av bs.length cv) y]) ∧ Aside0 (Below w.heap.size w w'))
                  case atStart => exact ⟨0, bs, rfl, ⟨by decide⟩, ⟨by omega⟩, ⟨by omega⟩, S6, HB6⟩
                  case round =>
                    obtain ⟨q, y, rfl, hq0, hqx, hqk, hSq, hBq⟩ := hrel
                    clear S6 HB6
                    have hqkk := hqk.out
                    by_cases hqc : q < (bs.length : Int)
                    · have e1 : decide (q < (bs.length : Int)) = true := decide_eq_true hqc
                      obtain ⟨gf, hgf⟩ := Sep.form hSq.out 2 rfl (by have := hq0.out; omega)
                      subst hgf
                      obtain ⟨hcell, hfr, hput⟩ := Sep.put (w := w) hSq.out 2 rfl hBq.out q hq0.out hqc
                      have hwq : IntKind.i64.wrap (q + 1) = q + 1 := by have := hq0.out; have := HBL.out; simp only [i64_w]; unfold wrap64; omega
                      have p3 := eq_true hq0.out
                      have q3 := eq_true hqc
                      have HQC := Aside0.mk hqc
                      have HPUT := Aside0.mk (hput 0)
                      clear hqc hput
                      go_wp2
                      go_roundg (gk - 1)
                      case measure => have := HQC.out; have := hq0.out; omega
                      case rel => exact ⟨q + 1, y.set q.toNat 0, rfl, ⟨by have := hq0.out; omega⟩, ⟨by have := HQC.out; omega⟩, ⟨by have := HQC.out; omega⟩, ⟨HPUT.out.1⟩, ⟨HPUT.out.2⟩⟩
                    · have e1 : decide (q < (bs.length : Int)) = false := decide_eq_false hqc
                      have S9 := Aside0.mk (hSq.out.take 2)
                      clear hSq hqk hqkk
                      go_wp2
                      go_roundg (gI - 1)
                      case measure => have := HKN.out; have := hk0.out; have := hk5.out; have := HN5.out; omega
                      case rel => exact ⟨k + 1, M', s', rfl, ⟨by have := hk0.out; omega⟩, ⟨by have := HKN.out; have := HN5.out; omega⟩, ⟨by have := HKN.out; have := hk5.out; omega⟩, HML, HNB, S9, hBq⟩
                · have f1 : decide (k < n) = false := decide_eq_false hkn
                  go_wp2
                  go_roundg (gO - 1)
                  case measure => have := HC.out.2; have := hi0.out; omega
                  case rel => exact ⟨i + 1, M, s, rfl, ⟨by have := hi0.out; omega⟩, ⟨by have := HC.out.2; omega⟩, hMl, hMB, hS, hB⟩
      · have d12 : (decide (i < (l0.length : Int)) = true ∧ decide (i < 60) = false) ∨ decide (i < (l0.length : Int)) = false := by
          by_cases h1 : i < (l0.length : Int)
          · exact .inl ⟨decide_eq_true h1, decide_eq_false (fun h2 => hc ⟨h1, h2⟩)⟩
          · exact .inr (decide_eq_false h1)
        rcases d12 with ⟨d1, d2⟩ | d1
        all_goals
          go_wp2_with (first | (go_at_call 14; refine (awake_calls _).mono ?_; rintro e w12 ⟨rfl, hb12⟩; have hB12 := below_step hB.out hb12))
          go_ret
          exact ⟨rfl, hB12⟩
  · rw [if_neg hok] at h
    cases h
end Go.Proofs.Ytkndghbognhocaa.X
