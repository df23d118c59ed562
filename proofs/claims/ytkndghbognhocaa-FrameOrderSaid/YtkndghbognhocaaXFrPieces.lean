/- FramePieces. -/
import Derived.Test.YtkndghbognhocaaXFrPiece
import Derived.Test.YtkndghbognhocaaXFrWaits
import Derived.Test.YtkndghbognhocaaXx0
import Derived.Test.YtkndghbognhocaaXx6
import Derived.Test.YtkndghbognhocaaXx9
namespace Go.Proofs.Ytkndghbognhocaa.Pure
set_option linter.unusedVariables false
open Go.RowKit Go.Proofs.Ytkndghbognhocaa.X Go.Proofs.YtkndghbognhocaaW.PrintWords Go.Proofs.YtkndghbognhocaaW.PrintLast Go.Proofs.YtkndghbognhocaaW.PrintMore
theorem allC_size (n : Nat) : ∀ l t, mu l t < n → (allC l t).1.length ≤ mu l t ∧ ∀ o ∈ (allC l t).1, o.f0.length ≤ l.length := by
  induction n with
  | zero => intro l t h; omega
  | succ n ih =>
    intro l t h
    by_cases hn : (nextI l t).1.2.1 = false ∧ (nextI l t).1.2.2 = 0
    · rw [allC_none hn]; exact ⟨Nat.zero_le _, fun o ho => by cases ho⟩
    · rw [allC_some hn]
      have hm := mu_next hn
      have hl := next_le l t
      obtain ⟨h1, h2⟩ := ih _ _ (show mu (nextI l t).2.1 (nextI l t).2.2 < n by omega)
      refine ⟨by simp only [List.length_cons]; omega, fun o ho => ?_⟩
      rcases List.mem_cons.1 ho with rfl | ho
      · exact hl.2
      · exact Nat.le_trans (h2 o ho) hl.1
theorem same_loop (l : List S49) (hb : ∀ o ∈ l, o.f0.length ≤ 1048576) (hl : l.length ≤ 1000000) (d : Nat) : ∀ i : Nat, i + d = l.length → Ev (fun k => incunablelaw28_same.l0 k l l (i : Int)) true := by
  induction d with
  | zero =>
    intro i hi
    refine Ev.step (f := fun k => _) (fun k => by simp only [incunablelaw28_same.l0]; rfl) ?_
    exact ev_neg (by omega) (Ev.now _)
  | succ d ih =>
    intro i hi
    have hil : i < l.length := by omega
    refine Ev.step (f := fun k => _) (fun k => by simp only [incunablelaw28_same.l0]; rfl) ?_
    refine ev_pos (by omega) (ev_pos (by omega) (ev_pos (by omega) ?_))
    have hm : (rd_T49 l (i : Int)) ∈ l := by
      unfold rd_T49
      rw [Int.toNat_natCast, List.getD_eq_getElem?_getD, List.getElem?_eq_getElem hil]
      exact List.getElem_mem hil
    refine Ev.bind (f := fun k t => _) (same_ev _ _ rfl (by have := hb _ hm; omega)) ?_
    refine ev_pos rfl ?_
    refine ev_neg (by simp) (ev_pos trivial ?_)
    rw [show wrap64 ((i : Int) + 1) = ((i + 1 : Nat) : Int) from by unfold wrap64; omega]
    exact ih (i + 1) (by omega)
theorem sameL_ev (l : List S49) (hb : ∀ o ∈ l, o.f0.length ≤ 1048576) (hl : l.length ≤ 1000000) : Ev (fun k => incunablelaw28_same.f k l l) true := by
  unfold incunablelaw28_same.f
  exact ev_pos rfl (same_loop l hb hl l.length 0 (by omega))
/-- whole numbers, as a law's argument brings them -/
def okI (l : List Int) : Bool := l.all (fun x => decide (-9223372036854775808 ≤ x) && decide (x < 9223372036854775808))
theorem okI_rd {l : List Int} (h : okI l = true) (i : Int) (h0 : 0 ≤ i) (h1 : i < (l.length : Int)) : -9223372036854775808 ≤ rd l i ∧ rd l i < 9223372036854775808 := by
  obtain ⟨j, rfl⟩ := Int.eq_ofNat_of_zero_le h0
  rw [rd_at l j (by omega)]
  unfold okI at h
  have := List.all_eq_true.1 h _ (List.getElem_mem (show j < l.length by omega))
  rw [Bool.and_eq_true, decide_eq_true_eq, decide_eq_true_eq] at this
  exact this
theorem okI_of {l : List Int} (h : ∀ x ∈ l, (Lit.int .i64 x).wf = true) : okI l = true := by
  unfold okI
  rw [List.all_eq_true]
  intro x hx
  have := wf_i64 (h x hx)
  rw [Bool.and_eq_true, decide_eq_true_eq, decide_eq_true_eq]
  exact this
end Go.Proofs.Ytkndghbognhocaa.Pure
namespace Go.Proofs.Ytkndghbognhocaa.X
open Go.RowKit Go.Proofs.YtkndghbognhocaaW.PrintWords Go.Proofs.YtkndghbognhocaaW.PrintLast Go.Proofs.YtkndghbognhocaaW.PrintMore Go.Proofs.Ytkndghbognhocaa.Pure
attribute [local go_sem] max2_int min2_int max_two min_two max_three min_three max_four min_four
set_option linter.unusedVariables false
set_option linter.unusedSimpArgs false
theorem same_n (l : List S49) (hb : ∀ o ∈ l, o.f0.length ≤ 1048576) (hl : l.length ≤ 1000000) (A B : Option Addr) (n c j d : Nat) (w : World) (hn : l.length = n) (hC : CN w A n l) (hc : n ≤ c) (hj : l.length = j) (hD : CN w B j l) (hd : j ≤ d) :
    Calls Try.prog 24 #[.slice A n c, .slice B j d] w fun e w' => e = .returned (.bool true) ∧ Below w.heap.size w w' := by
  subst hn
  subst hj
  obtain ⟨k, hk⟩ := (sameL_ev l hb hl).rounds
  exact incunablelaw28_same.calls k A c l B d l _ w hC hc hD hd hk
def incunablelaw28_FramePieces.f (k : Nat) (l0 l1 : List Int) : Option Bool := if okB l0 = true ∧ okI l1 = true then some true else none
set_option maxHeartbeats 16000000 in
set_option maxRecDepth 100000 in
theorem incunablelaw28_FramePieces.calls (k : Nat) (A0 : Option Addr) (c0 : Nat) (l0 : List Int) (A1 : Option Addr) (c1 : Nat) (l1 : List Int) (r : Bool) (w : World) (hr0 : Kd.C (Kd.int .u8) w A0 l0.length l0) (hc0 : l0.length ≤ c0) (hr1 : Kd.C (Kd.int .i64) w A1 l1.length l1) (hc1 : l1.length ≤ c1) (h : incunablelaw28_FramePieces.f k l0 l1 = some r) :
    Calls Try.prog 5 #[.slice A0 l0.length c0, .slice A1 l1.length c1] w fun e w' => e = .returned (.bool r) ∧ Below w.heap.size w w' := by
  unfold incunablelaw28_FramePieces.f at h
  by_cases hok : okB l0 = true ∧ okI l1 = true
  · rw [if_pos hok] at h
    injection h with h
    subst h
    have hB0 := okB_BI hok.1
    have hI1 := hok.2
    obtain ⟨m, hm⟩ : ∃ m, m = min l0.length 3000 := ⟨_, rfl⟩
    have hmin : (if (3000 : Int) < (l0.length : Int) then 3000 else (l0.length : Int)) = (m : Int) := by split <;> omega
    obtain ⟨hcut, hCt⟩ := CB_to A0 c0 l0 m (by omega) hc0
    have hxl : (l0.take m).length = m := by rw [List.length_take]; omega
    have hxB : BI (l0.take m) := BI_take hB0 m
    have hCx := hCt w hr0
    have hm5 : m ≤ 3000 := by omega
    have hmc : m ≤ c0 := by omega
    generalize l0.take m = x at hxl hxB hCx
    have hall := all_C x false (by omega)
    have hsz := allC_size (mu x false + 1) x false (by omega)
    have hmu := mu_le x false (by omega)
    generalize hW : allC x false = Wt at hall hsz
    have HM := Aside0.mk hm5
    have HMC := Aside0.mk hmc
    have HX := Aside0.mk hxl
    have HA := Aside0.mk hall
    have HS := Aside0.mk hsz
    have HMU := Aside0.mk hmu
    have HMM := Aside0.mk hm
    have HW := Aside0.mk hW
    clear hm hok hm5 hmc hxl hall hsz hCt hmu hW
    go_enter Try.func5, Try.ntmps5
    go_upto_region 9 with (first | (have g_ := s3; clear g_; go_at_call 15; refine (New_rf _).mono ?_; rintro e w4 ⟨g2, rfl, hr4, hb4⟩; have s4 := s3.new (base := w.heap.size) hB3.size hr4 hb4; have hB4 := below_step hB3 hb4; clear s3 hr4) | (go_at_call 15; refine (New_rf _).mono ?_; rintro e w1 ⟨g, rfl, hr1', hb1⟩; have s1 := (Sep.nil w).new (base := w.heap.size) (Nat.le_refl _) hr1' hb1; clear hr1') | (go_at_call 17; refine (Sep.feed (w := w) s1 0 g [] false rfl hb1 x (by have := HX.out; have := HM.out; simp only [List.length_nil]; omega) A0 m c0 HX.out (Kd.C_belowB hCx hb1 rfl) HMC.out).mono ?_; rintro e w2 ⟨rfl, s2, hB2, _⟩; rw [List.nil_append] at s2; clear s1) | (go_at_call 23; refine (Sep.all (w := w) s2 0 g x false rfl hB2 hxB (by have := HX.out; have := HM.out; omega) _ HA.out).mono ?_; rintro e w3 ⟨v3, rfl, ⟨A3, c3, rfl⟩, s3, hB3, _⟩; clear s2))
    have s5 := s4.add (tH w.heap.size (.slice none 0 0) []) (show HN _ _ _ _ _ from Kd.N_nil _ _ _ _ _)
    have S5 := Aside0.mk s5
    have HB5 := Aside0.mk hB4
    clear s4 hB4 s5 hB3 hB2 hb1
    go_wp2
    go_loopg [8, 9, 10] 41 (fun kq v8 v9 v10 w' => ∃ (i : Int) (G : List S49) (ls : List Int) (ts : Bool) (p : Nat) (Ar Ag : Option Addr) (cr cg : Nat), v10 = .int .i64 i ∧ v9 = .slice Ar (m - p) cr ∧ v8 = .slice Ag G.length cg ∧ Aside0 (0 ≤ i) ∧ Aside0 ((kq : Int) + i = 41) ∧ Aside0 (Wt = (G ++ (allC (ls ++ x.drop p) ts).1, (allC (ls ++ x.drop p) ts).2)) ∧ Aside0 (p ≤ m) ∧ Aside0 (BI ls) ∧ Aside0 (ls.length ≤ p) ∧ Aside0 (CB w Ar (m - p) (x.drop p)) ∧ Aside0 (m - p ≤ cr) ∧
      Aside0 (Sep w' w'.heap.size [tRF w.heap.size g Wt.2.1 Wt.2.2, tH w.heap.size (.slice A3 Wt.1.length c3) Wt.1, tRF w.heap.size g2 ls ts, tH w.heap.size (.slice Ag G.length cg) G]) ∧ Aside0 (Below w.heap.size w w'))
    case atStart => exact ⟨0, [], [], false, 0, A0, none, c0, 0, rfl, rfl, rfl, ⟨by omega⟩, ⟨by omega⟩, ⟨by rw [List.drop_zero, List.nil_append, List.nil_append, HW.out]⟩, ⟨Nat.zero_le _⟩, ⟨BI_nil⟩, ⟨Nat.zero_le _⟩, ⟨by rw [List.drop_zero]; exact hCx⟩, ⟨HMC.out⟩, S5, HB5⟩
    case round =>
      obtain ⟨i, G, ls, ts, p, Ar, Ag, cr, cg, rfl, rfl, rfl, hi0, hk, hinv, hp, hls, hll, hCr, hcr, hS, hB⟩ := hrel
      clear S5 HB5
      have hkk := hk.out
      by_cases hc : i < (l1.length : Int) ∧ i < 40
      · have d1 : decide (i < (l1.length : Int)) = true := decide_eq_true hc.1
        have d2 : decide (i < 40) = true := decide_eq_true hc.2
        have hwi : IntKind.i64.wrap (i + 1) = i + 1 := by have := hi0.out; simp only [i64_w]; unfold wrap64; omega
        have hwr : IntKind.i64.wrap (((m - p : Nat) : Int) + 1) = ((m - p : Nat) : Int) + 1 := by have := HM.out; simp only [i64_w]; unfold wrap64; omega
        have hrd := okI_rd hI1 i hi0.out hc.1
        obtain ⟨n', hn', hn0, hn1⟩ := bring_some (rd l1 i) (((m - p : Nat) : Int) + 1) hrd.1 hrd.2 (by omega) (by have := HM.out; omega)
        obtain ⟨n, rfl⟩ := Int.eq_ofNat_of_zero_le hn0
        have hnl : n ≤ m - p := by omega
        have HNN := Aside0.mk hnl
        have hrest : (x.drop p).length = m - p := by rw [List.length_drop, HX.out]
        obtain ⟨hcutT, hCT⟩ := CBn_to Ar cr (x.drop p) (m - p) n hrest hnl hcr.out
        obtain ⟨A8, c8, hcutD, hCD, hc8⟩ := CBn_from Ar cr (x.drop p) (m - p) n hrest hnl hcr.out
        have hC8 := hCD w hCr.out
        have HNT := Aside0.mk (show ((x.drop p).take n).length = n from by rw [List.length_take, hrest]; omega)
        have hst := piece_step (A := G) (W := Wt) (t := ts) (l := ls) (p := (x.drop p).take n) (q := (x.drop p).drop n) (by rw [List.take_append_drop]; exact hinv.out)
        have hBl : BI (ls ++ (x.drop p).take n) := BI_append hls.out (BI_take (BI_drop hxB p) n)
        have hll' := hll.out
        have hpp := hp.out
        have hlen : (ls ++ (x.drop p).take n).length ≤ 3000 := by rw [List.length_append, HNT.out]; have := HM.out; omega
        have hallp := all_C (ls ++ (x.drop p).take n) ts hlen
        have hln := allC_len [] false (mu (ls ++ (x.drop p).take n) ts + 1) (ls ++ (x.drop p).take n) ts (by omega)
        have hBn := allC_BI (mu (ls ++ (x.drop p).take n) ts + 1) (ls ++ (x.drop p).take n) ts (by omega) hBl
        generalize allC (ls ++ (x.drop p).take n) ts = Q at hst hallp hln hBn
        have hcnt : G.length + Q.1.length ≤ 1000 := by
          have h1 := HS.out.1
          have h2 := HMU.out
          rw [hst] at h1
          simp only [List.length_append] at h1
          omega
        have HQ := Aside0.mk hallp
        have HCN := Aside0.mk hcnt
        have HST := Aside0.mk hst
        have HLN := Aside0.mk hln
        have HLE := Aside0.mk hlen
        have HRE := Aside0.mk hrest
        have HC8 := Aside0.mk hc8
        clear hallp hcnt hst hln hlen hrest hc8 hnl hn0 hn1
        obtain ⟨ad, ead, hxc⟩ := Kd.at_int (Kd.C_belowB hr1 hB.out rfl) i hi0.out hc.1
        cases ead
        have p1 := eq_true hi0.out
        have q1 := eq_true hc.1
        go_wp2_with (first | (go_at_call 19; refine (incunableref00_Bring.calls _ _ _ _ hn').mono ?_; rintro e w5 ⟨rfl, hd5⟩; have s5 := hS.out.below hd5.below; have hB5 := below_step hB.out hd5.below) | (go_at_call 17; refine (Sep.feed (w := w) s5 2 g2 ls ts rfl hB5 ((x.drop p).take n) (by have := HNT.out; have := HM.out; have := HNN.out; omega) Ar n cr HNT.out (hCT _ (Kd.C_belowB hCr.out hB5 rfl)) (by have := HNN.out; have := hcr.out; omega)).mono ?_; rintro e w6 ⟨rfl, s6, hB6, _⟩; clear s5) | (go_at_call 23; refine (Sep.all (w := w) s6 2 g2 _ ts rfl hB6 hBl (by have := HLE.out; omega) Q HQ.out).mono ?_; rintro e w7 ⟨v7, rfl, ⟨A7, c7, rfl⟩, s7, hB7, _⟩; clear s6) | ((with_reducible refine gate_builtin (b := .append) (xs := #[.tmp 50, .tmp 52]) rfl ?_); at_builtin; obtain ⟨SG, SQ, hG, hQ, hdis, hbG, hbQ, hup⟩ := Sep.upd3 (Xs := [tRF w.heap.size g Wt.2.1 Wt.2.2, tH w.heap.size (.slice A3 Wt.1.length c3) Wt.1, tRF w.heap.size g2 Q.2.1 Q.2.2, tH w.heap.size (.slice Ag G.length cg) G]) (Y := tH w.heap.size (.slice A7 Q.1.length c7) Q.1) s7 3 _ rfl; have hG' : HN w7 w.heap.size SG (.slice Ag G.length cg) G := hG; have hQ' : HN w7 w.heap.size SQ (.slice A7 Q.1.length c7) Q.1 := hQ; refine Kd.N_append_rows k49 (w0 := w) w.heap.size rfl (.tmp 50) (.tmp 52) 44 49 (.agg #[.slice none 0 0, .bool false, .int .i64 0]) 40 rfl Try.underlying44 info49 rfl (by decide) (by omega) (.slice Ag G.length cg) G Q.1 A7 Q.1.length c7 (fun k => SG k ∨ SQ k ∨ w7.heap.size ≤ k) SQ rfl rfl (Kd.N_mono hG' (fun k hk => .inl hk)) (Kd.N_F hQ') (fun k hk => ⟨.inr (.inl hk), fun he => hdis k (hG'.1 k he.symm) hk⟩) (fun k hk => .inr (.inr hk)) hB7 hB7.size (by have := HCN.out; omega) ?_; intro v9 w9 hN9 hB9 hg9 hat9; obtain ⟨A9, c9, e9⟩ := Kd.N_slice hN9; rw [List.length_append] at e9; subst e9; have s9 := hup w9 (tH w.heap.size (.slice A9 (G.length + Q.1.length) c9) (G ++ Q.1)) (Kept.of_grown hg9 (Kept.refl _ _) (fun k hk => .inl (hG'.1 k hk))) (Kd.N_bound hN9); clear s7 hup hG hQ hG' hQ' hN9))
        go_roundg (gk - 1)
        case measure => omega
        case rel => exact ⟨i + 1, G ++ Q.1, Q.2.1, Q.2.2, p + n, A8, A9, c8, c9, rfl, (by rw [show m - (p + n) = m - p - n by omega]), (by rw [List.length_append]), ⟨by have := hi0.out; omega⟩, ⟨by omega⟩, ⟨by rw [← List.drop_drop]; exact HST.out⟩, ⟨by have := HNN.out; omega⟩, ⟨hBn⟩, ⟨by have := HLN.out; rw [List.length_append, HNT.out] at this; omega⟩, ⟨by rw [← List.drop_drop, show m - (p + n) = m - p - n by omega]; exact hC8⟩, ⟨by have := HC8.out; omega⟩, ⟨by rw [List.length_append]; exact s9⟩, ⟨hB9⟩⟩
      · have d12 : (decide (i < (l1.length : Int)) = true ∧ decide (i < 40) = false) ∨ decide (i < (l1.length : Int)) = false := by
          by_cases h1 : i < (l1.length : Int)
          · exact .inl ⟨decide_eq_true h1, decide_eq_false (fun h2 => hc ⟨h1, h2⟩)⟩
          · exact .inr (decide_eq_false h1)
        have hpp := hp.out
        have hll' := hll.out
        have hrest : (x.drop p).length = m - p := by rw [List.length_drop, HX.out]
        have hBl : BI (ls ++ x.drop p) := BI_append hls.out (BI_drop hxB p)
        have hlen : (ls ++ x.drop p).length ≤ 3000 := by rw [List.length_append, hrest]; have := HM.out; omega
        have hallp := all_C (ls ++ x.drop p) ts hlen
        have hst := hinv.out
        generalize allC (ls ++ x.drop p) ts = Q at hst hallp
        have hcnt : G.length + Q.1.length ≤ 1000 := by
          have h1 := HS.out.1
          have h2 := HMU.out
          rw [hst] at h1
          simp only [List.length_append] at h1
          omega
        have hfb : ∀ o ∈ Wt.1, o.f0.length ≤ 1048576 := fun o ho => by have h1 := HS.out.2 o ho; have := HX.out; have := HM.out; omega
        have hW1 : Wt.1 = G ++ Q.1 := by rw [hst]
        have hW2 : Wt.2 = Q.2 := by rw [hst]
        have hQlen : (G ++ Q.1).length ≤ 1000 := by rw [List.length_append]; omega
        have hwl : Wt.2.1.length = Q.2.1.length := by rw [hW2]
        have HQ := Aside0.mk hallp
        have HCN := Aside0.mk hcnt
        have HLE := Aside0.mk hlen
        have HRE := Aside0.mk hrest
        have HW1 := Aside0.mk hW1
        have HW2 := Aside0.mk hW2
        have HFB := Aside0.mk hfb
        have HQL := Aside0.mk hQlen
        clear hallp hcnt hst hlen hrest hW1 hW2 hfb hQlen hpp hll'
        rcases d12 with ⟨d1, d2⟩ | d1
        all_goals
          go_wp2_with (first | (have g_ := s9; clear g_; go_at_call 24; refine (same_n Wt.1 HFB.out (by rw [HW1.out]; have := HQL.out; omega) _ _ _ _ _ _ _ rfl (s9.heard 1 rfl).2.1 (s9.heard 1 rfl).2.2 (by rw [HW1.out, List.length_append]) (by have h3 := s9.heard 3 rfl; rw [HW1.out]; exact h3.2.1) (s9.heard 3 rfl).2.2).mono ?_; rintro e w10 ⟨rfl, hb10⟩; have s10 := s9.below hb10; have hB10 := below_step hB9 hb10; clear s9) | (go_at_call 17; refine (Sep.feed (w := w) hS.out 2 g2 ls ts rfl hB.out (x.drop p) (by have := HLE.out; rw [List.length_append] at this; omega) Ar (m - p) cr HRE.out (Kd.C_belowB hCr.out hB.out rfl) hcr.out).mono ?_; rintro e w6 ⟨rfl, s6, hB6, _⟩) | (go_at_call 23; refine (Sep.all (w := w) s6 2 g2 _ ts rfl hB6 hBl (by have := HLE.out; omega) Q HQ.out).mono ?_; rintro e w7 ⟨v7, rfl, ⟨A7, c7, rfl⟩, s7, hB7, _⟩; clear s6) | ((with_reducible refine gate_builtin (b := .append) (xs := #[.tmp 61, .tmp 63]) rfl ?_); at_builtin; obtain ⟨SG, SQ, hG, hQ, hdis, hbG, hbQ, hup⟩ := Sep.upd3 (Xs := [tRF w.heap.size g Wt.2.1 Wt.2.2, tH w.heap.size (.slice A3 Wt.1.length c3) Wt.1, tRF w.heap.size g2 Q.2.1 Q.2.2, tH w.heap.size (.slice Ag G.length cg) G]) (Y := tH w.heap.size (.slice A7 Q.1.length c7) Q.1) s7 3 _ rfl; have hG' : HN w7 w.heap.size SG (.slice Ag G.length cg) G := hG; have hQ' : HN w7 w.heap.size SQ (.slice A7 Q.1.length c7) Q.1 := hQ; refine Kd.N_append_rows k49 (w0 := w) w.heap.size rfl (.tmp 61) (.tmp 63) 44 49 (.agg #[.slice none 0 0, .bool false, .int .i64 0]) 40 rfl Try.underlying44 info49 rfl (by decide) (by omega) (.slice Ag G.length cg) G Q.1 A7 Q.1.length c7 (fun k => SG k ∨ SQ k ∨ w7.heap.size ≤ k) SQ rfl rfl (Kd.N_mono hG' (fun k hk => .inl hk)) (Kd.N_F hQ') (fun k hk => ⟨.inr (.inl hk), fun he => hdis k (hG'.1 k he.symm) hk⟩) (fun k hk => .inr (.inr hk)) hB7 hB7.size (by have := HCN.out; omega) ?_; intro v9 w9 hN9 hB9 hg9 hat9; obtain ⟨A9, c9, e9⟩ := Kd.N_slice hN9; rw [List.length_append] at e9; subst e9; have s9 := hup w9 (tH w.heap.size (.slice A9 (G.length + Q.1.length) c9) (G ++ Q.1)) (Kept.of_grown hg9 (Kept.refl _ _) (fun k hk => .inl (hG'.1 k hk))) (Kd.N_bound hN9); clear s7 hup hG hQ hG' hQ' hN9) | (have g_ := hfst; clear g_; go_at_call 22; refine (Sep.waits (w := w) s10 2 g2 _ _ rfl).mono ?_; rintro e w10 ⟨rfl, rfl⟩) | (go_at_call 22; refine (Sep.waits (w := w) s10 0 g _ _ rfl).mono ?_; rintro e w10 ⟨rfl, rfl⟩; have hfst := True.intro) | (go_at_call 14; refine (awake_calls _).mono ?_; rintro e w12 ⟨rfl, hb12⟩; have hB12 := below_step hB10 hb12))
          go_ret
          exact ⟨rfl, hB12⟩
  · rw [if_neg hok] at h
    cases h
end Go.Proofs.Ytkndghbognhocaa.X
