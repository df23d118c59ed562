/- Joined by frjoin.py, a program of these sessions, out of: FrAll, FrAwake, FrCom, FrEval, FrHear, FrMake, FrSep. -/
import Derived.Test.YtkndghbognhocaaXFrG2
import Derived.Test.YtkndghbognhocaaXFrG1
import Derived.Test.YtkndghbognhocaaXKeep
import Derived.Test.YtkndghbognhocaaXx0
import Derived.Test.YtkndghbognhocaaXx4
import Derived.Test.YtkndghbognhocaaXx2
import Derived.Test.YtkndghbognhocaaXx1
import Derived.Test.YtkndghbognhocaaXx3
import Derived.Test.YtkndghbognhocaaXx6
namespace Go.Proofs.Ytkndghbognhocaa.Pure
open Go.RowKit Go.Proofs.Ytkndghbognhocaa.X Go.Proofs.YtkndghbognhocaaW.PrintWords Go.Proofs.YtkndghbognhocaaW.PrintLast Go.Proofs.YtkndghbognhocaaW.PrintMore
/-- what 'all' hears, and what waits then -/
def allI : Nat → List Int → Bool → List S49 × List Int × Bool
  | 0, l, t => ([], l, t)
  | n + 1, l, t => if (nextI l t).1.2.1 = false ∧ (nextI l t).1.2.2 = 0 then ([], (nextI l t).2.1, (nextI l t).2.2)
    else (⟨(nextI l t).1.1, (nextI l t).1.2.1, (nextI l t).1.2.2⟩ :: (allI n (nextI l t).2.1 (nextI l t).2.2).1, (allI n (nextI l t).2.1 (nextI l t).2.2).2)
theorem allI_succ (n : Nat) (l : List Int) (t : Bool) : allI (n + 1) l t = if (nextI l t).1.2.1 = false ∧ (nextI l t).1.2.2 = 0 then ([], (nextI l t).2.1, (nextI l t).2.2)
    else (⟨(nextI l t).1.1, (nextI l t).1.2.1, (nextI l t).1.2.2⟩ :: (allI n (nextI l t).2.1 (nextI l t).2.2).1, (allI n (nextI l t).2.1 (nextI l t).2.2).2) := rfl
theorem allI_zero (l : List Int) (t : Bool) : allI 0 l t = ([], l, t) := rfl
end Go.Proofs.Ytkndghbognhocaa.Pure
namespace Go.Proofs.Ytkndghbognhocaa.X
open Go.RowKit Go.Proofs.YtkndghbognhocaaW.PrintWords Go.Proofs.YtkndghbognhocaaW.PrintLast Go.Proofs.YtkndghbognhocaaW.PrintMore Go.Proofs.Ytkndghbognhocaa.Pure
attribute [local go_sem] max2_int min2_int max_two min_two max_three min_three max_four min_four
set_option linter.unusedVariables false
set_option linter.unusedSimpArgs false
theorem info49 : (Try.prog.info? 49).map (fun i => (i.zero, i.size, i.bytes)) = some (some (.agg #[.slice none 0 0, .bool false, .int .i64 0]), 3, 40) := by kernel_rfl
abbrev HN (w : World) (base : Nat) (ok : Nat → Prop) (v : Value) (xs : List S49) : Prop := Kd.N k49 49 w base ok v xs
theorem fk49 {W : World} {base : Nat} {okr : Nat → Prop} {A : Option Addr} {n c : Nat} {a : List Int} (is : Bool) (e : Int) (h : (Kd.int .u8).R 5 W base okr (.slice A n c) a) :
    Kd.FK k49 W (fun k => some k = (Value.slice A n c).ownBlock) (⟨a, is, e⟩ : S49) [.slice A n c, .bool is, .int .i64 e] := by
  have hn := (Kd.R_reads' h).1
  subst hn
  exact k49_mkF W _ ⟨a, is, e⟩ (Kd.R_reads' h).2.1 (Kd.R_F (Kd.R_tight rfl h))
set_option maxHeartbeats 8000000 in
set_option maxRecDepth 100000 in
theorem all_calls (P0 : Nat → Prop) (g : Nat) (told : Bool) (l : List Int) (hBI : BI l) (hl : l.length ≤ 1048576) (w0 w : World) (hB0 : Below w0.heap.size w0 w) (hr : RF true told w w0.heap.size P0 g l) :
    Calls Try.prog 23 #[.pointer (some ⟨g, 0, none⟩)] w fun e w' => ∃ v, e = .returned v ∧ HN w' w.heap.size (fun k => w.heap.size ≤ k) v (allI 1000 l told).1 ∧ RF true (allI 1000 l told).2.2 w' w0.heap.size P0 g (allI 1000 l told).2.1 ∧ Below w0.heap.size w0 w' ∧ Kept w w' P0 := by
  have HR := Aside0.mk (RD.bound hr)
  clear hr
  generalize hP : (fun k => P0 k ∧ k < w.heap.size) = P1 at HR
  have hP1 : ∀ k, P1 k → P0 k ∧ k < w.heap.size := fun k hk => by rw [← hP] at hk; exact hk
  clear hP
  generalize hAA : allI 1000 l told = AA
  go_enter Try.func23, Try.ntmps23
  go_wp2
  go_loopg [3, 4] 1001 (fun kq v3 v4 w' => ∃ (i : Nat) (xs : List S49) (m : List Int) (t : Bool), v4 = .int .i64 (i : Int) ∧ Aside0 (kq + i = 1001) ∧ Aside0 (xs.length = i) ∧ Aside0 (AA = (xs ++ (allI (1000 - i) m t).1, (allI (1000 - i) m t).2)) ∧ Aside0 (BI m) ∧ Aside0 (m.length ≤ 1048576) ∧ Aside0 (HN w' w.heap.size (fun k => w.heap.size ≤ k) v3 xs) ∧ Aside0 (RF true t w' w0.heap.size P1 g m) ∧ Aside0 (Below w0.heap.size w0 w') ∧ Aside0 (Kept w w' P1))
  case atStart => exact ⟨0, [], l, told, rfl, ⟨rfl⟩, ⟨rfl⟩, ⟨hAA.symm⟩, ⟨hBI⟩, ⟨hl⟩, ⟨Kd.N_nil _ _ _ _ _⟩, HR, ⟨hB0⟩, ⟨Kept.refl _ _⟩⟩
  case round =>
    obtain ⟨i, xs, m, t, rfl, hk, hxl, hall, hb, hml, hN, hR, hB, hK⟩ := hrel
    have hkk := hk.out
    by_cases hi : i < 1000
    · have di : decide ((i : Int) < 1000) = true := decide_eq_true (by omega)
      have hwi : IntKind.i64.wrap ((i : Int) + 1) = (i : Int) + 1 := by simp only [i64_w]; unfold wrap64; omega
      have hnb := next_BI hb.out t
      have hnl := next_le m t
      have hall2 := hall.out
      rw [show 1000 - i = (999 - i) + 1 by omega, allI_succ] at hall2
      have hnx := Next_calls P1 g t m hb.out hml.out w0 wr hB.out hR.out
      have hmm := hml.out
      generalize nextI m t = r at hnb hnl hall2 hnx
      obtain ⟨⟨a, is, e⟩, m', t'⟩ := r
      dsimp only at hnb hnl hall2
      by_cases hnone : is = false ∧ e = 0
      · obtain ⟨rfl, rfl⟩ := hnone
        rw [if_pos ⟨rfl, rfl⟩] at hall2
        go_wp2_with (first | (go_at_call 20; refine hnx.mono ?_; rintro e w3 ⟨v5, rfl, hR5, hR3, hB3, hK3⟩; obtain ⟨A5, c5, rfl⟩ := Kd.R_slice hR5))
        obtain ⟨A3, c3, rfl⟩ := Kd.N_slice hN.out
        go_wp2
        go_ret
        rw [hall2]
        exact ⟨_, rfl, by rw [List.append_nil]; exact Kd.N_kept hN.out hK3 (fun k hk hp => Nat.not_lt.2 hk (hP1 k hp).2), hR3.mono (fun k hk => (hP1 k hk).1), hB3, (hK.out.then_ hK3 (fun k hk => .inl hk)).mono (fun k hk => (hP1 k hk).1)⟩
      · rw [if_neg hnone] at hall2
        have hcond : (!is && (e == 0)) = false := by
          cases is
          · simpa using fun h => hnone ⟨rfl, h⟩
          · rfl
        obtain ⟨A3, c3, e3⟩ := Kd.N_slice hN.out
        subst e3
        cases is
        · have he0 : (e == 0) = false := by simpa using hcond
          go_wp2_with (first | (go_at_call 20; refine hnx.mono ?_; rintro e w3 ⟨v5, rfl, hR5, hR3, hB3, hK3⟩; obtain ⟨A5, c5, rfl⟩ := Kd.R_slice hR5; have hN3 := Kd.N_kept hN.out hK3 (fun k hk hp => Nat.not_lt.2 hk (hP1 k hp).2); have hK3' := hK.out.then_ hK3 (fun k hk => .inl hk); have hN' := hN.out; have hK' := hK) | ((with_reducible refine gate_builtin (b := .append) (xs := #[.tmp 24, .tmp 29]) rfl ?_); at_builtin; refine Kd.N_append k49 (w0 := w3) w.heap.size rfl (.tmp 24) (.tmp 29) 44 49 (.agg #[.slice none 0 0, .bool false, .int .i64 0]) 40 rfl Try.underlying44 info49 rfl (by decide) (by omega) _ xs _ _ (fun k => w.heap.size ≤ k) (fun k => some k = (Value.slice A5 a.length c5).ownBlock) rfl rfl (fk49 _ _ hR5) ?aK ?aF hN3 ?aB ?aS ?aL ?_; (case aK => exact fun k hk => ⟨Nat.le_trans hK'.out.1 (Kd.R_base hR5 k hk.symm), fun he => Nat.not_lt.2 (Kd.R_base hR5 k hk.symm) (Kd.N_lt hN' k he.symm)⟩); (case aF => exact fun k hk => Nat.le_trans hK3'.1 hk); (case aB => exact Below.refl _ _); (case aS => exact hK3'.1); (case aL => have := hxl.out; omega); intro v6 w6 hN6 hB6 hg6 hat6; obtain ⟨A6, c6, e6⟩ := Kd.N_slice hN6; rw [List.length_append, List.length_singleton] at e6; subst e6))
          have hR6 := RD.step hR3 (fun k hk hlt => hg6.block k hlt (fun he => Nat.not_lt.2 (Kd.N_base hN3 k he.symm) (hP1 k hk).2))
          go_roundg (gk - 1)
          case measure => omega
          case rel => exact ⟨i + 1, xs ++ [⟨a, _, e⟩], m', t', rfl, ⟨by omega⟩, ⟨by rw [List.length_append, List.length_singleton, hxl.out]⟩, ⟨by rw [hall2, show 1000 - (i + 1) = 999 - i by omega, List.append_assoc]; rfl⟩, ⟨hnb.2⟩, ⟨by omega⟩, ⟨hN6⟩, ⟨hR6⟩, ⟨hB3.grown hg6 hB3.size (fun k hk => Nat.le_trans hB0.size (Kd.N_base hN3 k hk))⟩, ⟨Kept.of_grown hg6 hK3' (fun k hk => .inr (Kd.N_base hN3 k hk))⟩⟩
        · go_wp2_with (first | (go_at_call 20; refine hnx.mono ?_; rintro e w3 ⟨v5, rfl, hR5, hR3, hB3, hK3⟩; obtain ⟨A5, c5, rfl⟩ := Kd.R_slice hR5; have hN3 := Kd.N_kept hN.out hK3 (fun k hk hp => Nat.not_lt.2 hk (hP1 k hp).2); have hK3' := hK.out.then_ hK3 (fun k hk => .inl hk); have hN' := hN.out; have hK' := hK) | ((with_reducible refine gate_builtin (b := .append) (xs := #[.tmp 24, .tmp 29]) rfl ?_); at_builtin; refine Kd.N_append k49 (w0 := w3) w.heap.size rfl (.tmp 24) (.tmp 29) 44 49 (.agg #[.slice none 0 0, .bool false, .int .i64 0]) 40 rfl Try.underlying44 info49 rfl (by decide) (by omega) _ xs _ _ (fun k => w.heap.size ≤ k) (fun k => some k = (Value.slice A5 a.length c5).ownBlock) rfl rfl (fk49 _ _ hR5) ?aK ?aF hN3 ?aB ?aS ?aL ?_; (case aK => exact fun k hk => ⟨Nat.le_trans hK'.out.1 (Kd.R_base hR5 k hk.symm), fun he => Nat.not_lt.2 (Kd.R_base hR5 k hk.symm) (Kd.N_lt hN' k he.symm)⟩); (case aF => exact fun k hk => Nat.le_trans hK3'.1 hk); (case aB => exact Below.refl _ _); (case aS => exact hK3'.1); (case aL => have := hxl.out; omega); intro v6 w6 hN6 hB6 hg6 hat6; obtain ⟨A6, c6, e6⟩ := Kd.N_slice hN6; rw [List.length_append, List.length_singleton] at e6; subst e6))
          have hR6 := RD.step hR3 (fun k hk hlt => hg6.block k hlt (fun he => Nat.not_lt.2 (Kd.N_base hN3 k he.symm) (hP1 k hk).2))
          go_roundg (gk - 1)
          case measure => omega
          case rel => exact ⟨i + 1, xs ++ [⟨a, _, e⟩], m', t', rfl, ⟨by omega⟩, ⟨by rw [List.length_append, List.length_singleton, hxl.out]⟩, ⟨by rw [hall2, show 1000 - (i + 1) = 999 - i by omega, List.append_assoc]; rfl⟩, ⟨hnb.2⟩, ⟨by omega⟩, ⟨hN6⟩, ⟨hR6⟩, ⟨hB3.grown hg6 hB3.size (fun k hk => Nat.le_trans hB0.size (Kd.N_base hN3 k hk))⟩, ⟨Kept.of_grown hg6 hK3' (fun k hk => .inr (Kd.N_base hN3 k hk))⟩⟩
    · have di : decide ((i : Int) < 1000) = false := decide_eq_false (by omega)
      obtain ⟨A3, c3, rfl⟩ := Kd.N_slice hN.out
      go_wp2
      go_ret
      have h0 : 1000 - i = 0 := by omega
      have hall2 := hall.out
      rw [h0, allI_zero] at hall2
      rw [hall2]
      exact ⟨_, rfl, by rw [List.append_nil]; exact hN.out, hR.out.mono (fun k hk => (hP1 k hk).1), hB.out, hK.out.mono (fun k hk => (hP1 k hk).1)⟩
end Go.Proofs.Ytkndghbognhocaa.X
namespace Go.Proofs.Ytkndghbognhocaa.Pure
open Go.RowKit Go.Proofs.Ytkndghbognhocaa.X Go.Proofs.YtkndghbognhocaaW.PrintWords Go.Proofs.YtkndghbognhocaaW.PrintLast Go.Proofs.YtkndghbognhocaaW.PrintMore
def head5 (n : Nat) : List Int := [73, 81, (n : Int) / 65536 % 256, (n : Int) / 256 % 256, (n : Int) % 256]
def sealL (x : List Int) : List Int := x ++ crc4 x
def headL (n : Nat) : List Int := sealL (head5 n)
/-- the frame of bytes -/
def frameL (l : List Int) : List Int := sealL (headL l.length ++ l)
def frameI (l : List Int) : List Int × Int := if 300000 < l.length then ([], 5) else (frameL l, 0)
theorem head5_BI (n : Nat) : BI (head5 n) := by
  intro x hx
  simp only [head5, List.mem_cons, List.not_mem_nil, or_false] at hx
  rcases hx with rfl | rfl | rfl | rfl | rfl <;> omega
theorem seal_BI {x : List Int} (h : BI x) : BI (sealL x) := BI_append h (crc4_BI x)
theorem seal_length (x : List Int) : (sealL x).length = x.length + 4 := by rw [sealL, List.length_append, crc4_length]
theorem headL_BI (n : Nat) : BI (headL n) := seal_BI (head5_BI n)
theorem headL_length (n : Nat) : (headL n).length = 9 := by rw [headL, seal_length]; rfl
theorem frameL_BI {l : List Int} (h : BI l) : BI (frameL l) := seal_BI (BI_append (headL_BI _) h)
theorem frameL_length (l : List Int) : (frameL l).length = l.length + 13 := by rw [frameL, seal_length, List.length_append, headL_length]; omega
theorem sealed_ev (L : List (List Int)) (hB : BI L.flatten) (h1 : L.length ≤ 1000) (h2 : L.flatten.length ≤ 1048576) : Ev (fun k => frame_sealed.f k L) (sealL L.flatten) := by
  unfold frame_sealed.f
  refine Ev.bind (f := fun k t => _) (concat_ev L (by omega) h2) ?_
  refine Ev.bind (f := fun k t => _) (sum_ev L.flatten hB (by omega)) ?_
  exact ev_pos (by rw [crc4_length]; omega) (Ev.now _)
end Go.Proofs.Ytkndghbognhocaa.Pure
namespace Go.Proofs.Ytkndghbognhocaa.X
open Go.RowKit Go.Proofs.YtkndghbognhocaaW.PrintWords Go.Proofs.YtkndghbognhocaaW.PrintLast Go.Proofs.YtkndghbognhocaaW.PrintMore Go.Proofs.Ytkndghbognhocaa.Pure
attribute [local go_sem] max2_int min2_int max_two min_two max_three min_three max_four min_four
set_option linter.unusedVariables false
set_option linter.unusedSimpArgs false
theorem sealed_n (L : List (List Int)) (hB : BI L.flatten) (h1 : L.length ≤ 1000) (h2 : L.flatten.length ≤ 1048576) (A : Option Addr) (n c : Nat) (w : World) (hn : L.length = n) (hC : (Kd.slice 5 (Kd.int .u8)).C w A n L) (hc : n ≤ c) :
    Calls Try.prog 28 #[.slice A n c] w fun e w' => ∃ v, e = .returned v ∧ (Kd.int .u8).R 5 w' w.heap.size (fun _ => True) v (sealL L.flatten) ∧ Below w.heap.size w w' := by
  subst hn
  obtain ⟨k, hk⟩ := (sealed_ev L hB h1 h2).rounds
  exact frame_sealed.calls k A c L _ w hC hc hk
theorem lit_row {W : World} {base : Nat} {ok : Nat → Prop} (l : List Int) {A : Option Addr} {c : Nat} (h : (Kd.int .u8).R 5 W base ok (.slice A l.length c) l) : Kd.FK (Kd.slice 5 (Kd.int .u8)) W (fun _ => True) l [.slice A l.length c] :=
  Kd.FK_slice_mk (Kd.R_reads' h).2.1 (Kd.F_mono (Kd.R_F h) (fun _ _ => trivial))
theorem lit_row' {W : World} {base : Nat} {ok : Nat → Prop} (l : List Int) {n : Nat} {A : Option Addr} {c : Nat} (hn : l.length = n) (h : (Kd.int .u8).R 5 W base ok (.slice A n c) l) : Kd.FK (Kd.slice 5 (Kd.int .u8)) W (fun _ => True) l [.slice A n c] := by
  subst hn
  exact lit_row l h
theorem lit_read {W : World} (l : List Int) {A : Option Addr} {c : Nat} (h : (Kd.int .u8).C W A l.length l) (hc : l.length ≤ c) : Kd.FK (Kd.slice 5 (Kd.int .u8)) W (fun _ => True) l [.slice A l.length c] :=
  Kd.FK_slice_mk hc (Kd.F_mono (Kd.C_F (Kd.heap_int .u8) h) (fun _ _ => trivial))
set_option maxHeartbeats 8000000 in
set_option maxRecDepth 100000 in
theorem Frame_big (l : List Int) (A : Option Addr) (c : Nat) (w : World) (hn : l.length ≤ 140737488351232) (h : 300000 < l.length) :
    Calls Try.prog 11 #[.slice A l.length c] w fun e w' => e = .returned (.tuple #[.slice none 0 0, .int .i64 5]) ∧ Below w.heap.size w w' := by
  have d1 : decide (300000 < (l.length : Int)) = true := decide_eq_true (by omega)
  go_enter Try.func11, Try.ntmps11
  go_wp2
  go_ret2
  exact ⟨rfl, Below.refl _ _⟩
set_option maxHeartbeats 8000000 in
set_option maxRecDepth 100000 in
theorem Frame_ok (l : List Int) (hB : BI l) (A : Option Addr) (c : Nat) (w : World) (hC : CB w A l.length l) (hc : l.length ≤ c) (h : l.length ≤ 300000) :
    Calls Try.prog 11 #[.slice A l.length c] w fun e w' => ∃ v, e = .returned (.tuple #[v, .int .i64 0]) ∧ (Kd.int .u8).R 5 w' w.heap.size (fun _ => True) v (frameL l) ∧ Below w.heap.size w w' := by
  have d1 : decide (300000 < (l.length : Int)) = false := decide_eq_false (by omega)
  have H3 := Aside0.mk h
  clear h
  go_enter Try.func11, Try.ntmps11
  go_wp2_with (first | ((with_reducible refine gate_dst (N := 10) rfl ?_); refine Kd.R_lit_keep (Kd.int .u8) (w0 := w) (N := 10) w.heap.size 5 rfl rfl (xs := [73, 81]) (inner := [.int .u8 73, .int .u8 81]) (ok := fun _ => True) (okp := fun _ => False) (by first | (go_simp; done) | (go_simp; rfl)) (Reps.one (show (Kd.int .u8).M _ _ _ 73 [.int .u8 73] from rfl) (Reps.one (show (Kd.int .u8).M _ _ _ 81 [.int .u8 81] from rfl) (Reps.none _ _))) (fun _ h => h.elim) trivial (Below.refl _ _) (Nat.le_refl _) (by decide) ?_; intro v1 w1 ho hb hg hn hk; obtain ⟨A1, e1⟩ := hk; obtain ⟨g1, cap1, e1', _⟩ := Kd.R_form ho (by decide); rw [e1] at e1'; have hA1 : A1 = some ⟨g1, 0, none⟩ := (by injection e1'); clear e1'; subst hA1; subst e1; obtain ⟨w2, hcv, hL, hb2, hg2⟩ := Kd.L_conv' (P := Try.prog) (t := 22) Try.underlying22 Try.underlying5 ho (by decide) hb (Nat.le_refl _); have hcv' : (convert 22 22 (.slice (some ⟨g1, 0, none⟩) 2 2)).run Try.prog w1 = .ok (.slice (some ⟨g1, 0, none⟩) 2 2) w2 := hcv; clear hcv) | ((with_reducible refine gate_dst (N := 20) rfl ?_); refine Kd.R_lit (Kd.int .u8) (w0 := w2) (N := 20) w2.heap.size 5 rfl rfl (xs := [(l.length : Int) / 65536 % 256, (l.length : Int) / 256 % 256, (l.length : Int) % 256]) (inner := [.int .u8 ((l.length : Int) / 65536 % 256), .int .u8 ((l.length : Int) / 256 % 256), .int .u8 ((l.length : Int) % 256)]) (ok := fun _ => True) (okp := fun _ => False) (by first | (go_simp; done) | (go_simp; rfl)) (Reps.one (show (Kd.int .u8).M _ _ _ _ [.int .u8 _] from rfl) (Reps.one (show (Kd.int .u8).M _ _ _ _ [.int .u8 _] from rfl) (Reps.one (show (Kd.int .u8).M _ _ _ _ [.int .u8 _] from rfl) (Reps.none _ _)))) (fun _ h => h.elim) trivial (Below.refl _ _) (Nat.le_refl _) (by simp) ?_; intro v3 w3 ho3 hb3 hg3 hn3; obtain ⟨A3, c3, e3⟩ := Kd.R_slice ho3; subst e3; obtain ⟨A1', c1', he1, hl1, hC1, _⟩ := hL; injection he1 with he1 _ hc1; subst he1; have hC1' := Kd.C_below hC1 hb3; have hB3 := below_step hb2 hb3) | ((with_reducible refine gate_builtin (b := .append) (xs := #[.tmp 11, .tmp 20]) rfl ?_); at_builtin; refine Kd.R_append_keep (w0 := w3) w3.heap.size rfl (.tmp 11) (.tmp 20) 22 5 (.int .u8 0) 1 rfl Try.underlying22 info5 rfl (by decide) (some ⟨g1, 0, none⟩) 2 [73, 81] [(l.length : Int) / 65536 % 256, (l.length : Int) / 256 % 256, (l.length : Int) % 256] A3 3 c3 (fun _ => True) 2 rfl rfl rfl (by decide) (by simp) hC1' (Kd.R_reads' ho3).2.2 (fun _ _ => trivial) (Below.refl _ _) (Nat.le_refl _) (by decide) ?_; intro v4 w4 ho4 hb4 hg4 hat4; have ho4' : (Kd.int .u8).R 5 w4 w3.heap.size (fun _ => True) v4 (head5 l.length) := ho4; obtain ⟨A4, c4, e4⟩ := Kd.R_slice ho4'; rw [show (head5 l.length).length = 5 from rfl] at e4; subst e4; have hB4 := below_step hB3 hb4) | ((with_reducible refine gate_dst (N := 23) rfl ?_); refine Kd.N_lit (Kd.slice 5 (Kd.int .u8)) (w0 := w4) w4.heap.size 22 rfl (N' := 23) rfl (xs := ([head5 l.length] : List (List Int))) (inner := [.slice A4 5 c4]) (ok := fun _ => True) (okp := fun _ => True) (by first | (go_simp; done) | (go_simp; rfl)) (Reps.one (lit_row (head5 l.length) ho4') (Reps.none _ _)) (fun _ h => h) trivial (Below.refl _ _) (Nat.le_refl _) (by simp) ?_; intro v5 w5 hN5 hb5 hg5 hn5; obtain ⟨A5, c5, e5⟩ := Kd.N_slice hN5; rw [show ([head5 l.length] : List (List Int)).length = 1 from rfl] at e5; subst e5; have hB5 := below_step hB4 hb5) | ((with_reducible refine gate_dst (N := 26) rfl ?_); refine Kd.N_lit (Kd.slice 5 (Kd.int .u8)) (w0 := w6) w6.heap.size 22 rfl (N' := 26) rfl (xs := ([headL l.length, l] : List (List Int))) (inner := [.slice A6 9 c6, .slice A l.length c]) (ok := fun _ => True) (okp := fun _ => True) (by first | (go_simp; done) | (go_simp; rfl)) (Reps.one (lit_row' (headL l.length) (headL_length _) hR6) (Reps.one (lit_read l (Kd.C_belowB hC hB6 rfl) hc) (Reps.none _ _))) (fun _ h => h) trivial (Below.refl _ _) (Nat.le_refl _) (by simp) ?_; intro v7 w7 hN7 hb7 hg7 hn7; obtain ⟨A7, c7, e7⟩ := Kd.N_slice hN7; rw [show ([headL l.length, l] : List (List Int)).length = 2 from rfl] at e7; subst e7; have hB7 := below_step hB6 hb7) | (go_at_call 28; refine (sealed_n [headL l.length, l] (by simp only [List.flatten_cons, List.flatten_nil, List.append_nil]; exact BI_append (headL_BI _) hB) (by simp) (by simp only [List.flatten_cons, List.flatten_nil, List.append_nil, List.length_append, headL_length]; have := H3.out; omega) A7 2 c7 _ rfl (Kd.N_reads' hN7).2.2 (Kd.N_reads' hN7).2.1).mono ?_; rintro e w8 ⟨v8, rfl, hR8, hb8⟩; rw [show ([headL l.length, l] : List (List Int)).flatten = headL l.length ++ l from by simp] at hR8; have hB8 := below_step hB7 hb8; obtain ⟨A8, c8, e8⟩ := Kd.R_slice hR8; subst e8) | (go_at_call 28; refine (sealed_n [head5 l.length] (by simpa using head5_BI _) (by simp) (by simp [head5]) A5 1 c5 _ rfl (Kd.N_reads' hN5).2.2 (Kd.N_reads' hN5).2.1).mono ?_; rintro e w6 ⟨v6, rfl, hR6, hb6⟩; rw [show ([head5 l.length] : List (List Int)).flatten = head5 l.length from by simp] at hR6; have hB6 := below_step hB5 hb6; obtain ⟨A6, c6, e6⟩ := Kd.R_slice hR6; rw [show (sealL (head5 l.length)).length = 9 from headL_length l.length] at e6; subst e6))
  go_ret2
  exact ⟨_, rfl, Kd.R_lower hR8 hB7.size, hB8⟩
theorem Frame_okn (l : List Int) (hB : BI l) (A : Option Addr) (n c : Nat) (w : World) (hn : l.length = n) (hC : CB w A n l) (hc : n ≤ c) (h : n ≤ 300000) :
    Calls Try.prog 11 #[.slice A n c] w fun e w' => ∃ v, e = .returned (.tuple #[v, .int .i64 0]) ∧ (Kd.int .u8).R 5 w' w.heap.size (fun _ => True) v (frameL l) ∧ Below w.heap.size w w' := by
  subst hn
  exact Frame_ok l hB A c w hC hc h
end Go.Proofs.Ytkndghbognhocaa.X
namespace Go.Proofs.Ytkndghbognhocaa.X
open Go.RowKit Go.Proofs.YtkndghbognhocaaW.PrintWords Go.Proofs.YtkndghbognhocaaW.PrintLast Go.Proofs.YtkndghbognhocaaW.PrintMore Go.Proofs.Ytkndghbognhocaa.Pure
attribute [local go_sem] max2_int min2_int max_two min_two max_three min_three max_four min_four
set_option linter.unusedVariables false
set_option linter.unusedSimpArgs false
set_option maxHeartbeats 8000000 in
set_option maxRecDepth 100000 in
theorem framed_calls (s : ByteArray) (l : List Int) (hl : bytesOf s = l) (hB : BI l) (h : s.size ≤ 300000) (w : World) :
    Calls Try.prog 27 #[.string s] w fun e w' => ∃ v, e = .returned v ∧ (Kd.int .u8).R 5 w' w.heap.size (fun _ => True) v (frameL l) ∧ Below w.heap.size w w' := by
  have kb := fun W => print_bytes (P := Try.prog) 9 22 5 Try.underlying9 Try.underlying22 Try.underlying5 s W
  have hs : l.length = s.size := by rw [← hl, bytesOf_length]
  have H3 := Aside0.mk h
  clear h
  go_enter Try.func27, Try.ntmps27
  go_wp2_with (first | (go_at_call 11; have hb1 := bytes_below (Below.refl w.heap.size w) (Nat.le_refl _) 5 s; have hC1 : CB (Lib.bytesWorld w 5 s) (some ⟨w.heap.size, 0, none⟩) l.length l := (by rw [hs, ← hl]; exact Kd.C_of_reads (d := (0 : Int)) (h1 := fun _ => rfl) (bytes_reads w 5 s (by have := H3.out; omega))); have hcap : l.length ≤ grownCap w s.size 0 5 := (by rw [hs]; exact grownCap_ge w s.size 0 5); rw [hs] at hC1 hcap; refine (Frame_okn l hB (some ⟨w.heap.size, 0, none⟩) s.size _ _ hs hC1 hcap (by have := H3.out; omega)).mono ?_; rintro e w2 ⟨v2, rfl, hR2, hb2⟩; obtain ⟨A2, c2, rfl⟩ := Kd.R_slice hR2))
  go_ret
  exact ⟨_, rfl, Kd.R_lower hR2 hb1.size, below_step hb1 hb2⟩
abbrev CN (w : World) (A : Option Addr) (n : Nat) (xs : List S49) : Prop := Kd.C k49 w A n xs
/-- an answer is what is wanted -/
def hit (o : S49) (s : ByteArray) : Prop := (s.toList = [33] ∧ o.f2 = 4) ∨ (s.toList ≠ [33] ∧ o.f2 = 0 ∧ (strOfNums o.f0).toList = s.toList)
set_option maxHeartbeats 16000000 in
set_option maxRecDepth 100000 in
theorem hears_true (P0 : Nat → Prop) (g : Nat) (told : Bool) (l lb : List Int) (hBI : BI l) (hBb : BI lb) (hll : l.length + lb.length ≤ 1048576) (w0 w : World) (hB0 : Below w0.heap.size w0 w) (hr : RF true told w w0.heap.size P0 g l)
    (A1 : Option Addr) (c1 : Nat) (hb : CB w A1 lb.length lb) (hc : lb.length ≤ c1) (want : List ByteArray) (A2 : Option Addr) (c2 : Nat) (hF : Kd.F Kd.string w (fun k => ¬ P0 k) A2 want.length want) (hc2 : want.length ≤ c2)
    (R : List S49 × List Int × Bool) (hR : allI 1000 (l ++ lb) told = R) (hn : R.1.length = want.length) (hm : ∀ x : Int, 0 ≤ x → x < (want.length : Int) → hit (rd_T49 R.1 x) (rdOf ByteArray.empty want x)) :
    Calls Try.prog 31 #[.pointer (some ⟨g, 0, none⟩), .slice A1 lb.length c1, .slice A2 want.length c2] w fun e w' => e = .returned (.bool true) ∧ RF true R.2.2 w' w0.heap.size (fun k => P0 k ∨ w.heap.size ≤ k) g R.2.1 ∧ Below w0.heap.size w0 w' ∧ Kept w w' P0 := by
  have hfeed := Feed_rf P0 g told l lb A1 c1 w0 w hB0 hr (by omega) hb hc (by omega)
  rw [if_pos hll, if_pos hll] at hfeed
  have hwl : want.length ≤ 9223372036854775807 := Kd.C_max (Kd.F_now hF)
  go_enter Try.func31, Try.ntmps31
  go_wp2_with (first | (go_at_call 17; refine hfeed.mono ?_; rintro e w1 ⟨rfl, hr1, hB1, hK1⟩) | (go_at_call 23; refine (all_calls _ g told (l ++ lb) (BI_append hBI hBb) (by rw [List.length_append]; omega) w0 _ hB1 hr1).mono ?_; rintro e w2 ⟨v2, rfl, hN2, hr2, hB2, hK2⟩; rw [hR] at hN2 hr2; have hK3 := (hK1.then_ hK2 (fun k hk => hk)); have hF3 := Kd.F_step hF (fun k hk hlt => hK3.2 k hlt hk); have hN3 := Aside0.mk hN2; have hF4 := Aside0.mk hF3; have hK4 := Aside0.mk hK3; clear hK1 hK2 hK3 hF3; obtain ⟨A3, c3, rfl⟩ := Kd.N_slice hN2; have hnn : (R.1.length : Int) = (want.length : Int) := (by rw [hn])) )
  have hr2' := Aside0.mk hr2
  have hB2' := Aside0.mk hB2
  clear hr2 hB2 hN2 hB1 hr1 hfeed
  go_loopg [8] (want.length + 1) (fun kq v8 w' => ∃ x : Int, v8 = .int .i64 x ∧ Aside0 (0 ≤ x) ∧ Aside0 (x ≤ (want.length : Int)) ∧ Aside0 ((kq : Int) + x = (want.length : Int) + 1) ∧ Aside0 (CN w' A3 R.1.length R.1) ∧ Aside0 (Kd.string.C w' A2 want.length want) ∧ Aside0 (RF true R.2.2 w' w0.heap.size (fun k => P0 k ∨ w.heap.size ≤ k) g R.2.1) ∧ Aside0 (Below w0.heap.size w0 w') ∧ Aside0 (Kept w w' P0))
  case atStart => exact ⟨0, rfl, ⟨by omega⟩, ⟨by omega⟩, ⟨by omega⟩, ⟨(Kd.N_reads' hN3.out).2.2⟩, ⟨Kd.F_now hF4.out⟩, hr2', hB2', hK4⟩
  case round =>
    obtain ⟨x, rfl, hx0', hxl, hk, hN, hW, hRF, hB, hK⟩ := hrel
    clear hN3 hF4 hr2' hB2' hK4
    have hkk := hk.out
    by_cases hx : x < (want.length : Int)
    · have dx : decide (x < (R.1.length : Int)) = true := decide_eq_true (by rw [hnn]; exact hx)
      have hh := hm x hx0'.out hx
      obtain ⟨adw, ew, hxw⟩ := Kd.at_string hW.out x hx0'.out hx
      obtain ⟨ad3, A30, c30, e3, hx0, hx1, hx2, hl0, hi0⟩ := at_T49 hN.out x hx0'.out (by rw [hnn]; exact hx)
      cases ew
      cases e3
      have hwx : IntKind.i64.wrap (x + 1) = x + 1 := by have := hx0'.out; simp only [i64_w]; unfold wrap64; omega
      have p1 := eq_true hx0'.out
      have q1 := eq_true hx
      have q2 : (x < (R.1.length : Int)) = True := eq_true (by rw [hnn]; exact hx)
      rcases hh with ⟨hs, he⟩ | ⟨hs, he, hf⟩
      · have b1 : ((rdOf ByteArray.empty want x).toList == [33]) = true := beq_iff_eq.mpr hs
        have b2 : ((rdOf ByteArray.empty want x).toList != [33]) = false := bne_eq_false_iff_eq.mpr hs
        have b3 : ((rd_T49 R.1 x).f2 != 4) = false := bne_eq_false_iff_eq.mpr he
        go_wp2
        refine start_ (n := 41) (S := fun w' => w'.cell? (adw.add x.toNat) = some (.string (rdOf ByteArray.empty want x)) ∧ w'.cell? ⟨(ad3.add (x.toNat * 3)).block, (ad3.add (x.toNat * 3)).off + 2, none⟩ = some (.int .i64 (rd_T49 R.1 x).f2)) (ds := []) #[false, false, false, false, false, false, false, false, false, false, false, false, false, false, false, false, false, false, false, false, false, false, false, false, false, false, false, false, false, false, false, false, false, false, false, false, false, false, false, false, false] (by kernel_rfl) rfl rfl ⟨hxw, hx2⟩ (fun hHeld => ?_)
        refine pure_ (i := 0) (N := some 26) (v := ?_) (a' := ?_) #[true, false, false, false, false, false, false, false, false, false, false, false, false, false, false, false, false, false, false, false, false, false, false, false, false, false, false, false, false, false, false, false, false, false, false, false, false, false, false, false, false] rfl rfl (by kernel_rfl) (fun _ _ _ h => h) (Or.inl ⟨by rfl, ?_⟩) ?_ ?_
        rotate_left
        · intro w'
          go_simp
          with_reducible rfl
        rotate_left
        · simp only [Act.put, List.setIfInBounds_toArray, List.set_cons_zero, List.set_cons_succ, i64_w, i32_w]
          rfl
        refine pure_ (i := 1) (N := some 27) (v := ?_) (a' := ?_) #[true, true, false, false, false, false, false, false, false, false, false, false, false, false, false, false, false, false, false, false, false, false, false, false, false, false, false, false, false, false, false, false, false, false, false, false, false, false, false, false, false] rfl rfl (by kernel_rfl) (fun _ _ _ h => h) (Or.inl ⟨by rfl, ?_⟩) ?_ ?_
        rotate_left
        · intro w'
          go_simp
          with_reducible rfl
        rotate_left
        · simp only [Act.put, List.setIfInBounds_toArray, List.set_cons_zero, List.set_cons_succ, i64_w, i32_w]
          rfl
        refine pure_ (i := 2) (N := some 28) (v := ?_) (a' := ?_) #[true, true, true, false, false, false, false, false, false, false, false, false, false, false, false, false, false, false, false, false, false, false, false, false, false, false, false, false, false, false, false, false, false, false, false, false, false, false, false, false, false] rfl rfl (by kernel_rfl) (fun _ _ _ h => h) (Or.inl ⟨by rfl, ?_⟩) ?_ ?_
        rotate_left
        · intro w'
          go_simp
          with_reducible rfl
        rotate_left
        · simp only [Act.put, List.setIfInBounds_toArray, List.set_cons_zero, List.set_cons_succ, i64_w, i32_w]
          rfl
        refine take_ (i := 3) (N := some 29) (v := ?_) (a' := ?_) #[true, true, true, true, false, false, false, false, false, false, false, false, false, false, false, false, false, false, false, false, false, false, false, false, false, false, false, false, false, false, false, false, false, false, false, false, false, false, false, false, false] rfl rfl (by kernel_rfl) (fun _ _ _ h => h) (Or.inl ⟨by rfl, ?_⟩) hHeld ?_ ?_
        rotate_left
        · rintro w' ⟨s0, s1⟩
          go_simp
          with_reducible rfl
        rotate_left
        · simp only [Act.put, List.setIfInBounds_toArray, List.set_cons_zero, List.set_cons_succ, i64_w, i32_w]
          rfl
        refine pure_ (i := 4) (N := some 30) (v := ?_) (a' := ?_) #[true, true, true, true, true, false, false, false, false, false, false, false, false, false, false, false, false, false, false, false, false, false, false, false, false, false, false, false, false, false, false, false, false, false, false, false, false, false, false, false, false] rfl rfl (by kernel_rfl) (fun _ _ _ h => h) (Or.inl ⟨by rfl, ?_⟩) ?_ ?_
        rotate_left
        · intro w'
          go_simp
          with_reducible rfl
        rotate_left
        · simp only [Act.put, List.setIfInBounds_toArray, List.set_cons_zero, List.set_cons_succ, i64_w, i32_w]
          rfl
        refine pure_ (i := 5) (N := some 31) (v := ?_) (a' := ?_) #[true, true, true, true, true, true, false, false, false, false, false, false, false, false, false, false, false, false, false, false, false, false, false, false, false, false, false, false, false, false, false, false, false, false, false, false, false, false, false, false, false] rfl rfl (by kernel_rfl) (fun _ _ _ h => h) (Or.inl ⟨by rfl, ?_⟩) ?_ ?_
        rotate_left
        · intro w'
          go_simp
          with_reducible rfl
        rotate_left
        · simp only [Act.put, List.setIfInBounds_toArray, List.set_cons_zero, List.set_cons_succ, i64_w, i32_w]
          rfl
        refine pure_ (i := 6) (N := some 32) (v := ?_) (a' := ?_) #[true, true, true, true, true, true, true, false, false, false, false, false, false, false, false, false, false, false, false, false, false, false, false, false, false, false, false, false, false, false, false, false, false, false, false, false, false, false, false, false, false] rfl rfl (by kernel_rfl) (fun _ _ _ h => h) (Or.inl ⟨by rfl, ?_⟩) ?_ ?_
        rotate_left
        · intro w'
          go_simp
          with_reducible rfl
        rotate_left
        · simp only [Act.put, List.setIfInBounds_toArray, List.set_cons_zero, List.set_cons_succ, i64_w, i32_w]
          rfl
        refine pure_ (i := 7) (N := some 33) (v := ?_) (a' := ?_) #[true, true, true, true, true, true, true, true, false, false, false, false, false, false, false, false, false, false, false, false, false, false, false, false, false, false, false, false, false, false, false, false, false, false, false, false, false, false, false, false, false] rfl rfl (by kernel_rfl) (fun _ _ _ h => h) (Or.inl ⟨by rfl, ?_⟩) ?_ ?_
        rotate_left
        · intro w'
          go_simp
          with_reducible rfl
        rotate_left
        · simp only [Act.put, List.setIfInBounds_toArray, List.set_cons_zero, List.set_cons_succ, i64_w, i32_w]
          rfl
        refine pure_ (i := 8) (N := some 34) (v := ?_) (a' := ?_) #[true, true, true, true, true, true, true, true, true, false, false, false, false, false, false, false, false, false, false, false, false, false, false, false, false, false, false, false, false, false, false, false, false, false, false, false, false, false, false, false, false] rfl rfl (by kernel_rfl) (fun _ _ _ h => h) (Or.inl ⟨by rfl, ?_⟩) ?_ ?_
        rotate_left
        · intro w'
          go_simp
          with_reducible rfl
        rotate_left
        · simp only [Act.put, List.setIfInBounds_toArray, List.set_cons_zero, List.set_cons_succ, i64_w, i32_w]
          rfl
        refine pure_ (i := 9) (N := some 35) (v := ?_) (a' := ?_) #[true, true, true, true, true, true, true, true, true, true, false, false, false, false, false, false, false, false, false, false, false, false, false, false, false, false, false, false, false, false, false, false, false, false, false, false, false, false, false, false, false] rfl rfl (by kernel_rfl) (fun _ _ _ h => h) (Or.inl ⟨by rfl, ?_⟩) ?_ ?_
        rotate_left
        · intro w'
          go_simp
          with_reducible rfl
        rotate_left
        · simp only [Act.put, List.setIfInBounds_toArray, List.set_cons_zero, List.set_cons_succ, i64_w, i32_w]
          rfl
        refine take_ (i := 10) (N := some 36) (v := ?_) (a' := ?_) #[true, true, true, true, true, true, true, true, true, true, true, false, false, false, false, false, false, false, false, false, false, false, false, false, false, false, false, false, false, false, false, false, false, false, false, false, false, false, false, false, false] rfl rfl (by kernel_rfl) (fun _ _ _ h => h) (Or.inl ⟨by rfl, ?_⟩) hHeld ?_ ?_
        rotate_left
        · rintro w' ⟨s0, s1⟩
          go_simp
          with_reducible rfl
        rotate_left
        · simp only [Act.put, List.setIfInBounds_toArray, List.set_cons_zero, List.set_cons_succ, i64_w, i32_w]
          rfl
        refine pure_ (i := 11) (N := some 37) (v := ?_) (a' := ?_) #[true, true, true, true, true, true, true, true, true, true, true, true, false, false, false, false, false, false, false, false, false, false, false, false, false, false, false, false, false, false, false, false, false, false, false, false, false, false, false, false, false] rfl rfl (by kernel_rfl) (fun _ _ _ h => h) (Or.inl ⟨by rfl, ?_⟩) ?_ ?_
        rotate_left
        · intro w'
          go_simp
          with_reducible rfl
        rotate_left
        · simp only [Act.put, List.setIfInBounds_toArray, List.set_cons_zero, List.set_cons_succ, i64_w, i32_w]
          rfl
        refine pure_ (i := 12) (N := some 38) (v := ?_) (a' := ?_) #[true, true, true, true, true, true, true, true, true, true, true, true, true, false, false, false, false, false, false, false, false, false, false, false, false, false, false, false, false, false, false, false, false, false, false, false, false, false, false, false, false] rfl rfl (by kernel_rfl) (fun _ _ _ h => h) (Or.inl ⟨by rfl, ?_⟩) ?_ ?_
        rotate_left
        · intro w'
          go_simp
          with_reducible rfl
        rotate_left
        · simp only [Act.put, List.setIfInBounds_toArray, List.set_cons_zero, List.set_cons_succ, i64_w, i32_w]
          rfl
        refine pure_ (i := 13) (N := some 39) (v := ?_) (a' := ?_) #[true, true, true, true, true, true, true, true, true, true, true, true, true, true, false, false, false, false, false, false, false, false, false, false, false, false, false, false, false, false, false, false, false, false, false, false, false, false, false, false, false] rfl rfl (by kernel_rfl) (fun _ _ _ h => h) (Or.inl ⟨by rfl, ?_⟩) ?_ ?_
        rotate_left
        · intro w'
          go_simp
          with_reducible rfl
        rotate_left
        · simp only [Act.put, List.setIfInBounds_toArray, List.set_cons_zero, List.set_cons_succ, i64_w, i32_w]
          rfl
        refine pure_ (i := 14) (N := some 40) (v := ?_) (a' := ?_) #[true, true, true, true, true, true, true, true, true, true, true, true, true, true, true, false, false, false, false, false, false, false, false, false, false, false, false, false, false, false, false, false, false, false, false, false, false, false, false, false, false] rfl rfl (by kernel_rfl) (fun _ _ _ h => h) (Or.inl ⟨by rfl, ?_⟩) ?_ ?_
        rotate_left
        · intro w'
          go_simp
          with_reducible rfl
        rotate_left
        · simp only [Act.put, List.setIfInBounds_toArray, List.set_cons_zero, List.set_cons_succ, i64_w, i32_w]
          rfl
        refine pure_ (i := 15) (N := some 41) (v := ?_) (a' := ?_) #[true, true, true, true, true, true, true, true, true, true, true, true, true, true, true, true, false, false, false, false, false, false, false, false, false, false, false, false, false, false, false, false, false, false, false, false, false, false, false, false, false] rfl rfl (by kernel_rfl) (fun _ _ _ h => h) (Or.inl ⟨by rfl, ?_⟩) ?_ ?_
        rotate_left
        · intro w'
          go_simp
          with_reducible rfl
        rotate_left
        · simp only [Act.put, List.setIfInBounds_toArray, List.set_cons_zero, List.set_cons_succ, i64_w, i32_w]
          rfl
        refine pure_ (i := 16) (N := some 42) (v := ?_) (a' := ?_) #[true, true, true, true, true, true, true, true, true, true, true, true, true, true, true, true, true, false, false, false, false, false, false, false, false, false, false, false, false, false, false, false, false, false, false, false, false, false, false, false, false] rfl rfl (by kernel_rfl) (fun _ _ _ h => h) (Or.inl ⟨by rfl, ?_⟩) ?_ ?_
        rotate_left
        · intro w'
          go_simp
          with_reducible rfl
        rotate_left
        · simp only [Act.put, List.setIfInBounds_toArray, List.set_cons_zero, List.set_cons_succ, i64_w, i32_w]
          rfl
        refine take_ (i := 17) (N := some 43) (v := ?_) (a' := ?_) #[true, true, true, true, true, true, true, true, true, true, true, true, true, true, true, true, true, true, false, false, false, false, false, false, false, false, false, false, false, false, false, false, false, false, false, false, false, false, false, false, false] rfl rfl (by kernel_rfl) (fun _ _ _ h => h) (Or.inl ⟨by rfl, ?_⟩) hHeld ?_ ?_
        rotate_left
        · rintro w' ⟨s0, s1⟩
          go_simp
          with_reducible rfl
        rotate_left
        · simp only [Act.put, List.setIfInBounds_toArray, List.set_cons_zero, List.set_cons_succ, i64_w, i32_w]
          rfl
        refine pure_ (i := 18) (N := some 44) (v := ?_) (a' := ?_) #[true, true, true, true, true, true, true, true, true, true, true, true, true, true, true, true, true, true, true, false, false, false, false, false, false, false, false, false, false, false, false, false, false, false, false, false, false, false, false, false, false] rfl rfl (by kernel_rfl) (fun _ _ _ h => h) (Or.inl ⟨by rfl, ?_⟩) ?_ ?_
        rotate_left
        · intro w'
          go_simp
          with_reducible rfl
        rotate_left
        · simp only [Act.put, List.setIfInBounds_toArray, List.set_cons_zero, List.set_cons_succ, i64_w, i32_w]
          rfl
        refine pure_ (i := 19) (N := some 45) (v := ?_) (a' := ?_) #[true, true, true, true, true, true, true, true, true, true, true, true, true, true, true, true, true, true, true, true, false, false, false, false, false, false, false, false, false, false, false, false, false, false, false, false, false, false, false, false, false] rfl rfl (by kernel_rfl) (fun _ _ _ h => h) (Or.inl ⟨by rfl, ?_⟩) ?_ ?_
        rotate_left
        · intro w'
          go_simp
          with_reducible rfl
        rotate_left
        · simp only [Act.put, List.setIfInBounds_toArray, List.set_cons_zero, List.set_cons_succ, i64_w, i32_w]
          rfl
        refine pure_ (i := 20) (N := some 46) (v := undef) (a' := ?_) #[true, true, true, true, true, true, true, true, true, true, true, true, true, true, true, true, true, true, true, true, true, false, false, false, false, false, false, false, false, false, false, false, false, false, false, false, false, false, false, false, false] rfl rfl (by kernel_rfl) (fun _ _ _ h => h) (Or.inr ⟨by rfl, rfl⟩) ?_ ?_
        rotate_left
        · simp only [Act.put, List.setIfInBounds_toArray, List.set_cons_zero, List.set_cons_succ, i64_w, i32_w]
          rfl
        refine pure_ (i := 21) (N := some 47) (v := undef) (a' := ?_) #[true, true, true, true, true, true, true, true, true, true, true, true, true, true, true, true, true, true, true, true, true, true, false, false, false, false, false, false, false, false, false, false, false, false, false, false, false, false, false, false, false] rfl rfl (by kernel_rfl) (fun _ _ _ h => h) (Or.inr ⟨by rfl, rfl⟩) ?_ ?_
        rotate_left
        · simp only [Act.put, List.setIfInBounds_toArray, List.set_cons_zero, List.set_cons_succ, i64_w, i32_w]
          rfl
        refine pure_ (i := 22) (N := some 48) (v := undef) (a' := ?_) #[true, true, true, true, true, true, true, true, true, true, true, true, true, true, true, true, true, true, true, true, true, true, true, false, false, false, false, false, false, false, false, false, false, false, false, false, false, false, false, false, false] rfl rfl (by kernel_rfl) (fun _ _ _ h => h) (Or.inr ⟨by rfl, rfl⟩) ?_ ?_
        rotate_left
        · simp only [Act.put, List.setIfInBounds_toArray, List.set_cons_zero, List.set_cons_succ, i64_w, i32_w]
          rfl
        refine pure_ (i := 23) (N := some 49) (v := undef) (a' := ?_) #[true, true, true, true, true, true, true, true, true, true, true, true, true, true, true, true, true, true, true, true, true, true, true, true, false, false, false, false, false, false, false, false, false, false, false, false, false, false, false, false, false] rfl rfl (by kernel_rfl) (fun _ _ _ h => h) (Or.inr ⟨by rfl, rfl⟩) ?_ ?_
        rotate_left
        · simp only [Act.put, List.setIfInBounds_toArray, List.set_cons_zero, List.set_cons_succ, i64_w, i32_w]
          rfl
        refine pure_ (i := 24) (N := some 50) (v := undef) (a' := ?_) #[true, true, true, true, true, true, true, true, true, true, true, true, true, true, true, true, true, true, true, true, true, true, true, true, true, false, false, false, false, false, false, false, false, false, false, false, false, false, false, false, false] rfl rfl (by kernel_rfl) (fun _ _ _ h => h) (Or.inr ⟨by rfl, rfl⟩) ?_ ?_
        rotate_left
        · simp only [Act.put, List.setIfInBounds_toArray, List.set_cons_zero, List.set_cons_succ, i64_w, i32_w]
          rfl
        refine pure_ (i := 25) (N := some 51) (v := undef) (a' := ?_) #[true, true, true, true, true, true, true, true, true, true, true, true, true, true, true, true, true, true, true, true, true, true, true, true, true, true, false, false, false, false, false, false, false, false, false, false, false, false, false, false, false] rfl rfl (by kernel_rfl) (fun _ _ _ h => h) (Or.inr ⟨by rfl, rfl⟩) ?_ ?_
        rotate_left
        · simp only [Act.put, List.setIfInBounds_toArray, List.set_cons_zero, List.set_cons_succ, i64_w, i32_w]
          rfl
        refine pure_ (i := 26) (N := some 52) (v := undef) (a' := ?_) #[true, true, true, true, true, true, true, true, true, true, true, true, true, true, true, true, true, true, true, true, true, true, true, true, true, true, true, false, false, false, false, false, false, false, false, false, false, false, false, false, false] rfl rfl (by kernel_rfl) (fun _ _ _ h => h) (Or.inr ⟨by rfl, rfl⟩) ?_ ?_
        rotate_left
        · simp only [Act.put, List.setIfInBounds_toArray, List.set_cons_zero, List.set_cons_succ, i64_w, i32_w]
          rfl
        refine pure_ (i := 27) (N := some 53) (v := undef) (a' := ?_) #[true, true, true, true, true, true, true, true, true, true, true, true, true, true, true, true, true, true, true, true, true, true, true, true, true, true, true, true, false, false, false, false, false, false, false, false, false, false, false, false, false] rfl rfl (by kernel_rfl) (fun _ _ _ h => h) (Or.inr ⟨by rfl, rfl⟩) ?_ ?_
        rotate_left
        · simp only [Act.put, List.setIfInBounds_toArray, List.set_cons_zero, List.set_cons_succ, i64_w, i32_w]
          rfl
        refine pure_ (i := 28) (N := some 54) (v := undef) (a' := ?_) #[true, true, true, true, true, true, true, true, true, true, true, true, true, true, true, true, true, true, true, true, true, true, true, true, true, true, true, true, true, false, false, false, false, false, false, false, false, false, false, false, false] rfl rfl (by kernel_rfl) (fun _ _ _ h => h) (Or.inr ⟨by rfl, rfl⟩) ?_ ?_
        rotate_left
        · simp only [Act.put, List.setIfInBounds_toArray, List.set_cons_zero, List.set_cons_succ, i64_w, i32_w]
          rfl
        refine pure_ (i := 29) (N := some 55) (v := undef) (a' := ?_) #[true, true, true, true, true, true, true, true, true, true, true, true, true, true, true, true, true, true, true, true, true, true, true, true, true, true, true, true, true, true, false, false, false, false, false, false, false, false, false, false, false] rfl rfl (by kernel_rfl) (fun _ _ _ h => h) (Or.inr ⟨by rfl, rfl⟩) ?_ ?_
        rotate_left
        · simp only [Act.put, List.setIfInBounds_toArray, List.set_cons_zero, List.set_cons_succ, i64_w, i32_w]
          rfl
        refine pure_ (i := 30) (N := some 56) (v := undef) (a' := ?_) #[true, true, true, true, true, true, true, true, true, true, true, true, true, true, true, true, true, true, true, true, true, true, true, true, true, true, true, true, true, true, true, false, false, false, false, false, false, false, false, false, false] rfl rfl (by kernel_rfl) (fun _ _ _ h => h) (Or.inr ⟨by rfl, rfl⟩) ?_ ?_
        rotate_left
        · simp only [Act.put, List.setIfInBounds_toArray, List.set_cons_zero, List.set_cons_succ, i64_w, i32_w]
          rfl
        refine pure_ (i := 31) (N := some 57) (v := undef) (a' := ?_) #[true, true, true, true, true, true, true, true, true, true, true, true, true, true, true, true, true, true, true, true, true, true, true, true, true, true, true, true, true, true, true, true, false, false, false, false, false, false, false, false, false] rfl rfl (by kernel_rfl) (fun _ _ _ h => h) (Or.inr ⟨by rfl, rfl⟩) ?_ ?_
        rotate_left
        · simp only [Act.put, List.setIfInBounds_toArray, List.set_cons_zero, List.set_cons_succ, i64_w, i32_w]
          rfl
        refine pure_ (i := 32) (N := some 58) (v := undef) (a' := ?_) #[true, true, true, true, true, true, true, true, true, true, true, true, true, true, true, true, true, true, true, true, true, true, true, true, true, true, true, true, true, true, true, true, true, false, false, false, false, false, false, false, false] rfl rfl (by kernel_rfl) (fun _ _ _ h => h) (Or.inr ⟨by rfl, rfl⟩) ?_ ?_
        rotate_left
        · simp only [Act.put, List.setIfInBounds_toArray, List.set_cons_zero, List.set_cons_succ, i64_w, i32_w]
          rfl
        refine pure_ (i := 33) (N := some 59) (v := undef) (a' := ?_) #[true, true, true, true, true, true, true, true, true, true, true, true, true, true, true, true, true, true, true, true, true, true, true, true, true, true, true, true, true, true, true, true, true, true, false, false, false, false, false, false, false] rfl rfl (by kernel_rfl) (fun _ _ _ h => h) (Or.inr ⟨by rfl, rfl⟩) ?_ ?_
        rotate_left
        · simp only [Act.put, List.setIfInBounds_toArray, List.set_cons_zero, List.set_cons_succ, i64_w, i32_w]
          rfl
        refine pure_ (i := 34) (N := some 60) (v := undef) (a' := ?_) #[true, true, true, true, true, true, true, true, true, true, true, true, true, true, true, true, true, true, true, true, true, true, true, true, true, true, true, true, true, true, true, true, true, true, true, false, false, false, false, false, false] rfl rfl (by kernel_rfl) (fun _ _ _ h => h) (Or.inr ⟨by rfl, rfl⟩) ?_ ?_
        rotate_left
        · simp only [Act.put, List.setIfInBounds_toArray, List.set_cons_zero, List.set_cons_succ, i64_w, i32_w]
          rfl
        refine pure_ (i := 35) (N := some 61) (v := undef) (a' := ?_) #[true, true, true, true, true, true, true, true, true, true, true, true, true, true, true, true, true, true, true, true, true, true, true, true, true, true, true, true, true, true, true, true, true, true, true, true, false, false, false, false, false] rfl rfl (by kernel_rfl) (fun _ _ _ h => h) (Or.inr ⟨by rfl, rfl⟩) ?_ ?_
        rotate_left
        · simp only [Act.put, List.setIfInBounds_toArray, List.set_cons_zero, List.set_cons_succ, i64_w, i32_w]
          rfl
        refine pure_ (i := 36) (N := some 62) (v := undef) (a' := ?_) #[true, true, true, true, true, true, true, true, true, true, true, true, true, true, true, true, true, true, true, true, true, true, true, true, true, true, true, true, true, true, true, true, true, true, true, true, true, false, false, false, false] rfl rfl (by kernel_rfl) (fun _ _ _ h => h) (Or.inr ⟨by rfl, rfl⟩) ?_ ?_
        rotate_left
        · simp only [Act.put, List.setIfInBounds_toArray, List.set_cons_zero, List.set_cons_succ, i64_w, i32_w]
          rfl
        refine pure_ (i := 37) (N := some 63) (v := undef) (a' := ?_) #[true, true, true, true, true, true, true, true, true, true, true, true, true, true, true, true, true, true, true, true, true, true, true, true, true, true, true, true, true, true, true, true, true, true, true, true, true, true, false, false, false] rfl rfl (by kernel_rfl) (fun _ _ _ h => h) (Or.inr ⟨by rfl, rfl⟩) ?_ ?_
        rotate_left
        · simp only [Act.put, List.setIfInBounds_toArray, List.set_cons_zero, List.set_cons_succ, i64_w, i32_w]
          rfl
        refine pure_ (i := 38) (N := some 64) (v := undef) (a' := ?_) #[true, true, true, true, true, true, true, true, true, true, true, true, true, true, true, true, true, true, true, true, true, true, true, true, true, true, true, true, true, true, true, true, true, true, true, true, true, true, true, false, false] rfl rfl (by kernel_rfl) (fun _ _ _ h => h) (Or.inr ⟨by rfl, rfl⟩) ?_ ?_
        rotate_left
        · simp only [Act.put, List.setIfInBounds_toArray, List.set_cons_zero, List.set_cons_succ, i64_w, i32_w]
          rfl
        refine pure_ (i := 39) (N := some 65) (v := ?_) (a' := ?_) #[true, true, true, true, true, true, true, true, true, true, true, true, true, true, true, true, true, true, true, true, true, true, true, true, true, true, true, true, true, true, true, true, true, true, true, true, true, true, true, true, false] rfl rfl (by kernel_rfl) (fun _ _ _ h => h) (Or.inl ⟨by rfl, ?_⟩) ?_ ?_
        rotate_left
        · intro w'
          go_simp
          with_reducible rfl
        rotate_left
        · simp only [Act.put, List.setIfInBounds_toArray, List.set_cons_zero, List.set_cons_succ, i64_w, i32_w]
          rfl
        refine pure_ (i := 40) (N := some 66) (v := ?_) (a' := ?_) #[true, true, true, true, true, true, true, true, true, true, true, true, true, true, true, true, true, true, true, true, true, true, true, true, true, true, true, true, true, true, true, true, true, true, true, true, true, true, true, true, true] rfl rfl (by kernel_rfl) (fun _ _ _ h => h) (Or.inl ⟨by rfl, ?_⟩) ?_ ?_
        rotate_left
        · intro w'
          go_simp
          with_reducible rfl
        rotate_left
        · simp only [Act.put, List.setIfInBounds_toArray, List.set_cons_zero, List.set_cons_succ, i64_w, i32_w]
          rfl
        refine done_ (by kernel_rfl) ?_
        go_wp2
        go_roundg (gk - 1)
        case measure => omega
        case rel => exact ⟨x + 1, rfl, ⟨by have := hx0'.out; omega⟩, ⟨by omega⟩, ⟨by omega⟩, ⟨Kd.C_drew hN.out⟩, ⟨Kd.C_drew hW.out⟩, ⟨hRF.out.step (fun _ _ _ => rfl)⟩, ⟨below_drew1 hB.out⟩, ⟨hK.out.drew⟩⟩
      · have b1 : ((rdOf ByteArray.empty want x).toList == [33]) = false := beq_eq_false_iff_ne.mpr hs
        have b2 : ((rdOf ByteArray.empty want x).toList != [33]) = true := bne_iff_ne.mpr hs
        have b3 : ((rd_T49 R.1 x).f2 != 0) = false := bne_eq_false_iff_eq.mpr he
        have b4 : ((strOfNums (rd_T49 R.1 x).f0).toList != (rdOf ByteArray.empty want x).toList) = false := bne_eq_false_iff_eq.mpr hf
        go_wp2
        refine start_ (n := 41) (S := fun w' => w'.cell? (adw.add x.toNat) = some (.string (rdOf ByteArray.empty want x)) ∧ w'.cell? ⟨(ad3.add (x.toNat * 3)).block, (ad3.add (x.toNat * 3)).off + 2, none⟩ = some (.int .i64 (rd_T49 R.1 x).f2) ∧ w'.cell? (ad3.add (x.toNat * 3)) = some (.slice A30 (rd_T49 R.1 x).f0.length c30) ∧ CB w' A30 (rd_T49 R.1 x).f0.length (rd_T49 R.1 x).f0) (ds := []) #[false, false, false, false, false, false, false, false, false, false, false, false, false, false, false, false, false, false, false, false, false, false, false, false, false, false, false, false, false, false, false, false, false, false, false, false, false, false, false, false, false] (by kernel_rfl) rfl rfl ⟨hxw, hx2, hx0, hi0⟩ (fun hHeld => ?_)
        refine pure_ (i := 0) (N := some 26) (v := ?_) (a' := ?_) #[true, false, false, false, false, false, false, false, false, false, false, false, false, false, false, false, false, false, false, false, false, false, false, false, false, false, false, false, false, false, false, false, false, false, false, false, false, false, false, false, false] rfl rfl (by kernel_rfl) (fun _ _ _ h => h) (Or.inl ⟨by rfl, ?_⟩) ?_ ?_
        rotate_left
        · intro w'
          go_simp
          with_reducible rfl
        rotate_left
        · simp only [Act.put, List.setIfInBounds_toArray, List.set_cons_zero, List.set_cons_succ, i64_w, i32_w]
          rfl
        refine pure_ (i := 1) (N := some 27) (v := ?_) (a' := ?_) #[true, true, false, false, false, false, false, false, false, false, false, false, false, false, false, false, false, false, false, false, false, false, false, false, false, false, false, false, false, false, false, false, false, false, false, false, false, false, false, false, false] rfl rfl (by kernel_rfl) (fun _ _ _ h => h) (Or.inl ⟨by rfl, ?_⟩) ?_ ?_
        rotate_left
        · intro w'
          go_simp
          with_reducible rfl
        rotate_left
        · simp only [Act.put, List.setIfInBounds_toArray, List.set_cons_zero, List.set_cons_succ, i64_w, i32_w]
          rfl
        refine pure_ (i := 2) (N := some 28) (v := ?_) (a' := ?_) #[true, true, true, false, false, false, false, false, false, false, false, false, false, false, false, false, false, false, false, false, false, false, false, false, false, false, false, false, false, false, false, false, false, false, false, false, false, false, false, false, false] rfl rfl (by kernel_rfl) (fun _ _ _ h => h) (Or.inl ⟨by rfl, ?_⟩) ?_ ?_
        rotate_left
        · intro w'
          go_simp
          with_reducible rfl
        rotate_left
        · simp only [Act.put, List.setIfInBounds_toArray, List.set_cons_zero, List.set_cons_succ, i64_w, i32_w]
          rfl
        refine take_ (i := 3) (N := some 29) (v := ?_) (a' := ?_) #[true, true, true, true, false, false, false, false, false, false, false, false, false, false, false, false, false, false, false, false, false, false, false, false, false, false, false, false, false, false, false, false, false, false, false, false, false, false, false, false, false] rfl rfl (by kernel_rfl) (fun _ _ _ h => h) (Or.inl ⟨by rfl, ?_⟩) hHeld ?_ ?_
        rotate_left
        · rintro w' ⟨s0, s1, s2, s3⟩
          go_simp
          with_reducible rfl
        rotate_left
        · simp only [Act.put, List.setIfInBounds_toArray, List.set_cons_zero, List.set_cons_succ, i64_w, i32_w]
          rfl
        refine pure_ (i := 4) (N := some 30) (v := ?_) (a' := ?_) #[true, true, true, true, true, false, false, false, false, false, false, false, false, false, false, false, false, false, false, false, false, false, false, false, false, false, false, false, false, false, false, false, false, false, false, false, false, false, false, false, false] rfl rfl (by kernel_rfl) (fun _ _ _ h => h) (Or.inl ⟨by rfl, ?_⟩) ?_ ?_
        rotate_left
        · intro w'
          go_simp
          with_reducible rfl
        rotate_left
        · simp only [Act.put, List.setIfInBounds_toArray, List.set_cons_zero, List.set_cons_succ, i64_w, i32_w]
          rfl
        refine pure_ (i := 5) (N := some 31) (v := ?_) (a' := ?_) #[true, true, true, true, true, true, false, false, false, false, false, false, false, false, false, false, false, false, false, false, false, false, false, false, false, false, false, false, false, false, false, false, false, false, false, false, false, false, false, false, false] rfl rfl (by kernel_rfl) (fun _ _ _ h => h) (Or.inl ⟨by rfl, ?_⟩) ?_ ?_
        rotate_left
        · intro w'
          go_simp
          with_reducible rfl
        rotate_left
        · simp only [Act.put, List.setIfInBounds_toArray, List.set_cons_zero, List.set_cons_succ, i64_w, i32_w]
          rfl
        refine pure_ (i := 6) (N := some 32) (v := undef) (a' := ?_) #[true, true, true, true, true, true, true, false, false, false, false, false, false, false, false, false, false, false, false, false, false, false, false, false, false, false, false, false, false, false, false, false, false, false, false, false, false, false, false, false, false] rfl rfl (by kernel_rfl) (fun _ _ _ h => h) (Or.inr ⟨by rfl, rfl⟩) ?_ ?_
        rotate_left
        · simp only [Act.put, List.setIfInBounds_toArray, List.set_cons_zero, List.set_cons_succ, i64_w, i32_w]
          rfl
        refine pure_ (i := 7) (N := some 33) (v := undef) (a' := ?_) #[true, true, true, true, true, true, true, true, false, false, false, false, false, false, false, false, false, false, false, false, false, false, false, false, false, false, false, false, false, false, false, false, false, false, false, false, false, false, false, false, false] rfl rfl (by kernel_rfl) (fun _ _ _ h => h) (Or.inr ⟨by rfl, rfl⟩) ?_ ?_
        rotate_left
        · simp only [Act.put, List.setIfInBounds_toArray, List.set_cons_zero, List.set_cons_succ, i64_w, i32_w]
          rfl
        refine pure_ (i := 8) (N := some 34) (v := undef) (a' := ?_) #[true, true, true, true, true, true, true, true, true, false, false, false, false, false, false, false, false, false, false, false, false, false, false, false, false, false, false, false, false, false, false, false, false, false, false, false, false, false, false, false, false] rfl rfl (by kernel_rfl) (fun _ _ _ h => h) (Or.inr ⟨by rfl, rfl⟩) ?_ ?_
        rotate_left
        · simp only [Act.put, List.setIfInBounds_toArray, List.set_cons_zero, List.set_cons_succ, i64_w, i32_w]
          rfl
        refine pure_ (i := 9) (N := some 35) (v := undef) (a' := ?_) #[true, true, true, true, true, true, true, true, true, true, false, false, false, false, false, false, false, false, false, false, false, false, false, false, false, false, false, false, false, false, false, false, false, false, false, false, false, false, false, false, false] rfl rfl (by kernel_rfl) (fun _ _ _ h => h) (Or.inr ⟨by rfl, rfl⟩) ?_ ?_
        rotate_left
        · simp only [Act.put, List.setIfInBounds_toArray, List.set_cons_zero, List.set_cons_succ, i64_w, i32_w]
          rfl
        refine pure_ (i := 10) (N := some 36) (v := undef) (a' := ?_) #[true, true, true, true, true, true, true, true, true, true, true, false, false, false, false, false, false, false, false, false, false, false, false, false, false, false, false, false, false, false, false, false, false, false, false, false, false, false, false, false, false] rfl rfl (by kernel_rfl) (fun _ _ _ h => h) (Or.inr ⟨by rfl, rfl⟩) ?_ ?_
        rotate_left
        · simp only [Act.put, List.setIfInBounds_toArray, List.set_cons_zero, List.set_cons_succ, i64_w, i32_w]
          rfl
        refine pure_ (i := 11) (N := some 37) (v := undef) (a' := ?_) #[true, true, true, true, true, true, true, true, true, true, true, true, false, false, false, false, false, false, false, false, false, false, false, false, false, false, false, false, false, false, false, false, false, false, false, false, false, false, false, false, false] rfl rfl (by kernel_rfl) (fun _ _ _ h => h) (Or.inr ⟨by rfl, rfl⟩) ?_ ?_
        rotate_left
        · simp only [Act.put, List.setIfInBounds_toArray, List.set_cons_zero, List.set_cons_succ, i64_w, i32_w]
          rfl
        refine pure_ (i := 12) (N := some 38) (v := ?_) (a' := ?_) #[true, true, true, true, true, true, true, true, true, true, true, true, true, false, false, false, false, false, false, false, false, false, false, false, false, false, false, false, false, false, false, false, false, false, false, false, false, false, false, false, false] rfl rfl (by kernel_rfl) (fun _ _ _ h => h) (Or.inl ⟨by rfl, ?_⟩) ?_ ?_
        rotate_left
        · intro w'
          go_simp
          with_reducible rfl
        rotate_left
        · simp only [Act.put, List.setIfInBounds_toArray, List.set_cons_zero, List.set_cons_succ, i64_w, i32_w]
          rfl
        refine pure_ (i := 13) (N := some 39) (v := ?_) (a' := ?_) #[true, true, true, true, true, true, true, true, true, true, true, true, true, true, false, false, false, false, false, false, false, false, false, false, false, false, false, false, false, false, false, false, false, false, false, false, false, false, false, false, false] rfl rfl (by kernel_rfl) (fun _ _ _ h => h) (Or.inl ⟨by rfl, ?_⟩) ?_ ?_
        rotate_left
        · intro w'
          go_simp
          with_reducible rfl
        rotate_left
        · simp only [Act.put, List.setIfInBounds_toArray, List.set_cons_zero, List.set_cons_succ, i64_w, i32_w]
          rfl
        refine pure_ (i := 14) (N := some 40) (v := ?_) (a' := ?_) #[true, true, true, true, true, true, true, true, true, true, true, true, true, true, true, false, false, false, false, false, false, false, false, false, false, false, false, false, false, false, false, false, false, false, false, false, false, false, false, false, false] rfl rfl (by kernel_rfl) (fun _ _ _ h => h) (Or.inl ⟨by rfl, ?_⟩) ?_ ?_
        rotate_left
        · intro w'
          go_simp
          with_reducible rfl
        rotate_left
        · simp only [Act.put, List.setIfInBounds_toArray, List.set_cons_zero, List.set_cons_succ, i64_w, i32_w]
          rfl
        refine pure_ (i := 15) (N := some 41) (v := ?_) (a' := ?_) #[true, true, true, true, true, true, true, true, true, true, true, true, true, true, true, true, false, false, false, false, false, false, false, false, false, false, false, false, false, false, false, false, false, false, false, false, false, false, false, false, false] rfl rfl (by kernel_rfl) (fun _ _ _ h => h) (Or.inl ⟨by rfl, ?_⟩) ?_ ?_
        rotate_left
        · intro w'
          go_simp
          with_reducible rfl
        rotate_left
        · simp only [Act.put, List.setIfInBounds_toArray, List.set_cons_zero, List.set_cons_succ, i64_w, i32_w]
          rfl
        refine pure_ (i := 16) (N := some 42) (v := ?_) (a' := ?_) #[true, true, true, true, true, true, true, true, true, true, true, true, true, true, true, true, true, false, false, false, false, false, false, false, false, false, false, false, false, false, false, false, false, false, false, false, false, false, false, false, false] rfl rfl (by kernel_rfl) (fun _ _ _ h => h) (Or.inl ⟨by rfl, ?_⟩) ?_ ?_
        rotate_left
        · intro w'
          go_simp
          with_reducible rfl
        rotate_left
        · simp only [Act.put, List.setIfInBounds_toArray, List.set_cons_zero, List.set_cons_succ, i64_w, i32_w]
          rfl
        refine take_ (i := 17) (N := some 43) (v := ?_) (a' := ?_) #[true, true, true, true, true, true, true, true, true, true, true, true, true, true, true, true, true, true, false, false, false, false, false, false, false, false, false, false, false, false, false, false, false, false, false, false, false, false, false, false, false] rfl rfl (by kernel_rfl) (fun _ _ _ h => h) (Or.inl ⟨by rfl, ?_⟩) hHeld ?_ ?_
        rotate_left
        · rintro w' ⟨s0, s1, s2, s3⟩
          go_simp
          with_reducible rfl
        rotate_left
        · simp only [Act.put, List.setIfInBounds_toArray, List.set_cons_zero, List.set_cons_succ, i64_w, i32_w]
          rfl
        refine pure_ (i := 18) (N := some 44) (v := ?_) (a' := ?_) #[true, true, true, true, true, true, true, true, true, true, true, true, true, true, true, true, true, true, true, false, false, false, false, false, false, false, false, false, false, false, false, false, false, false, false, false, false, false, false, false, false] rfl rfl (by kernel_rfl) (fun _ _ _ h => h) (Or.inl ⟨by rfl, ?_⟩) ?_ ?_
        rotate_left
        · intro w'
          go_simp
          with_reducible rfl
        rotate_left
        · simp only [Act.put, List.setIfInBounds_toArray, List.set_cons_zero, List.set_cons_succ, i64_w, i32_w]
          rfl
        refine pure_ (i := 19) (N := some 45) (v := ?_) (a' := ?_) #[true, true, true, true, true, true, true, true, true, true, true, true, true, true, true, true, true, true, true, true, false, false, false, false, false, false, false, false, false, false, false, false, false, false, false, false, false, false, false, false, false] rfl rfl (by kernel_rfl) (fun _ _ _ h => h) (Or.inl ⟨by rfl, ?_⟩) ?_ ?_
        rotate_left
        · intro w'
          go_simp
          with_reducible rfl
        rotate_left
        · simp only [Act.put, List.setIfInBounds_toArray, List.set_cons_zero, List.set_cons_succ, i64_w, i32_w]
          rfl
        refine pure_ (i := 20) (N := some 46) (v := ?_) (a' := ?_) #[true, true, true, true, true, true, true, true, true, true, true, true, true, true, true, true, true, true, true, true, true, false, false, false, false, false, false, false, false, false, false, false, false, false, false, false, false, false, false, false, false] rfl rfl (by kernel_rfl) (fun _ _ _ h => h) (Or.inl ⟨by rfl, ?_⟩) ?_ ?_
        rotate_left
        · intro w'
          go_simp
          with_reducible rfl
        rotate_left
        · simp only [Act.put, List.setIfInBounds_toArray, List.set_cons_zero, List.set_cons_succ, i64_w, i32_w]
          rfl
        refine pure_ (i := 21) (N := some 47) (v := ?_) (a' := ?_) #[true, true, true, true, true, true, true, true, true, true, true, true, true, true, true, true, true, true, true, true, true, true, false, false, false, false, false, false, false, false, false, false, false, false, false, false, false, false, false, false, false] rfl rfl (by kernel_rfl) (fun _ _ _ h => h) (Or.inl ⟨by rfl, ?_⟩) ?_ ?_
        rotate_left
        · intro w'
          go_simp
          with_reducible rfl
        rotate_left
        · simp only [Act.put, List.setIfInBounds_toArray, List.set_cons_zero, List.set_cons_succ, i64_w, i32_w]
          rfl
        refine pure_ (i := 22) (N := some 48) (v := ?_) (a' := ?_) #[true, true, true, true, true, true, true, true, true, true, true, true, true, true, true, true, true, true, true, true, true, true, true, false, false, false, false, false, false, false, false, false, false, false, false, false, false, false, false, false, false] rfl rfl (by kernel_rfl) (fun _ _ _ h => h) (Or.inl ⟨by rfl, ?_⟩) ?_ ?_
        rotate_left
        · intro w'
          go_simp
          with_reducible rfl
        rotate_left
        · simp only [Act.put, List.setIfInBounds_toArray, List.set_cons_zero, List.set_cons_succ, i64_w, i32_w]
          rfl
        refine pure_ (i := 23) (N := some 49) (v := ?_) (a' := ?_) #[true, true, true, true, true, true, true, true, true, true, true, true, true, true, true, true, true, true, true, true, true, true, true, true, false, false, false, false, false, false, false, false, false, false, false, false, false, false, false, false, false] rfl rfl (by kernel_rfl) (fun _ _ _ h => h) (Or.inl ⟨by rfl, ?_⟩) ?_ ?_
        rotate_left
        · intro w'
          go_simp
          with_reducible rfl
        rotate_left
        · simp only [Act.put, List.setIfInBounds_toArray, List.set_cons_zero, List.set_cons_succ, i64_w, i32_w]
          rfl
        refine take_ (i := 24) (N := some 50) (v := ?_) (a' := ?_) #[true, true, true, true, true, true, true, true, true, true, true, true, true, true, true, true, true, true, true, true, true, true, true, true, true, false, false, false, false, false, false, false, false, false, false, false, false, false, false, false, false] rfl rfl (by kernel_rfl) (fun _ _ _ h => h) (Or.inl ⟨by rfl, ?_⟩) hHeld ?_ ?_
        rotate_left
        · rintro w' ⟨s0, s1, s2, s3⟩
          go_simp
          with_reducible rfl
        rotate_left
        · simp only [Act.put, List.setIfInBounds_toArray, List.set_cons_zero, List.set_cons_succ, i64_w, i32_w]
          rfl
        refine pure_ (i := 25) (N := some 51) (v := ?_) (a' := ?_) #[true, true, true, true, true, true, true, true, true, true, true, true, true, true, true, true, true, true, true, true, true, true, true, true, true, true, false, false, false, false, false, false, false, false, false, false, false, false, false, false, false] rfl rfl (by kernel_rfl) (fun _ _ _ h => h) (Or.inl ⟨by rfl, ?_⟩) ?_ ?_
        rotate_left
        · intro w'
          go_simp
          with_reducible rfl
        rotate_left
        · simp only [Act.put, List.setIfInBounds_toArray, List.set_cons_zero, List.set_cons_succ, i64_w, i32_w]
          rfl
        refine pure_ (i := 26) (N := some 52) (v := ?_) (a' := ?_) #[true, true, true, true, true, true, true, true, true, true, true, true, true, true, true, true, true, true, true, true, true, true, true, true, true, true, true, false, false, false, false, false, false, false, false, false, false, false, false, false, false] rfl rfl (by kernel_rfl) (fun _ _ _ h => h) (Or.inl ⟨by rfl, ?_⟩) ?_ ?_
        rotate_left
        · intro w'
          go_simp
          with_reducible rfl
        rotate_left
        · simp only [Act.put, List.setIfInBounds_toArray, List.set_cons_zero, List.set_cons_succ, i64_w, i32_w]
          rfl
        refine pure_ (i := 27) (N := some 53) (v := ?_) (a' := ?_) #[true, true, true, true, true, true, true, true, true, true, true, true, true, true, true, true, true, true, true, true, true, true, true, true, true, true, true, true, false, false, false, false, false, false, false, false, false, false, false, false, false] rfl rfl (by kernel_rfl) (fun _ _ _ h => h) (Or.inl ⟨by rfl, ?_⟩) ?_ ?_
        rotate_left
        · intro w'
          go_simp
          with_reducible rfl
        rotate_left
        · simp only [Act.put, List.setIfInBounds_toArray, List.set_cons_zero, List.set_cons_succ, i64_w, i32_w]
          rfl
        refine pure_ (i := 28) (N := some 54) (v := ?_) (a' := ?_) #[true, true, true, true, true, true, true, true, true, true, true, true, true, true, true, true, true, true, true, true, true, true, true, true, true, true, true, true, true, false, false, false, false, false, false, false, false, false, false, false, false] rfl rfl (by kernel_rfl) (fun _ _ _ h => h) (Or.inl ⟨by rfl, ?_⟩) ?_ ?_
        rotate_left
        · intro w'
          go_simp
          with_reducible rfl
        rotate_left
        · simp only [Act.put, List.setIfInBounds_toArray, List.set_cons_zero, List.set_cons_succ, i64_w, i32_w]
          rfl
        refine pure_ (i := 29) (N := some 55) (v := ?_) (a' := ?_) #[true, true, true, true, true, true, true, true, true, true, true, true, true, true, true, true, true, true, true, true, true, true, true, true, true, true, true, true, true, true, false, false, false, false, false, false, false, false, false, false, false] rfl rfl (by kernel_rfl) (fun _ _ _ h => h) (Or.inl ⟨by rfl, ?_⟩) ?_ ?_
        rotate_left
        · intro w'
          go_simp
          with_reducible rfl
        rotate_left
        · simp only [Act.put, List.setIfInBounds_toArray, List.set_cons_zero, List.set_cons_succ, i64_w, i32_w]
          rfl
        refine pure_ (i := 30) (N := some 56) (v := ?_) (a' := ?_) #[true, true, true, true, true, true, true, true, true, true, true, true, true, true, true, true, true, true, true, true, true, true, true, true, true, true, true, true, true, true, true, false, false, false, false, false, false, false, false, false, false] rfl rfl (by kernel_rfl) (fun _ _ _ h => h) (Or.inl ⟨by rfl, ?_⟩) ?_ ?_
        rotate_left
        · intro w'
          go_simp
          with_reducible rfl
        rotate_left
        · simp only [Act.put, List.setIfInBounds_toArray, List.set_cons_zero, List.set_cons_succ, i64_w, i32_w]
          rfl
        refine pure_ (i := 33) (N := some 59) (v := ?_) (a' := ?_) #[true, true, true, true, true, true, true, true, true, true, true, true, true, true, true, true, true, true, true, true, true, true, true, true, true, true, true, true, true, true, true, false, false, true, false, false, false, false, false, false, false] rfl rfl (by kernel_rfl) (fun _ _ _ h => h) (Or.inl ⟨by rfl, ?_⟩) ?_ ?_
        rotate_left
        · intro w'
          go_simp
          with_reducible rfl
        rotate_left
        · simp only [Act.put, List.setIfInBounds_toArray, List.set_cons_zero, List.set_cons_succ, i64_w, i32_w]
          rfl
        refine pure_ (i := 34) (N := some 60) (v := ?_) (a' := ?_) #[true, true, true, true, true, true, true, true, true, true, true, true, true, true, true, true, true, true, true, true, true, true, true, true, true, true, true, true, true, true, true, false, false, true, true, false, false, false, false, false, false] rfl rfl (by kernel_rfl) (fun _ _ _ h => h) (Or.inl ⟨by rfl, ?_⟩) ?_ ?_
        rotate_left
        · intro w'
          go_simp
          with_reducible rfl
        rotate_left
        · simp only [Act.put, List.setIfInBounds_toArray, List.set_cons_zero, List.set_cons_succ, i64_w, i32_w]
          rfl
        refine pure_ (i := 35) (N := some 61) (v := ?_) (a' := ?_) #[true, true, true, true, true, true, true, true, true, true, true, true, true, true, true, true, true, true, true, true, true, true, true, true, true, true, true, true, true, true, true, false, false, true, true, true, false, false, false, false, false] rfl rfl (by kernel_rfl) (fun _ _ _ h => h) (Or.inl ⟨by rfl, ?_⟩) ?_ ?_
        rotate_left
        · intro w'
          go_simp
          with_reducible rfl
        rotate_left
        · simp only [Act.put, List.setIfInBounds_toArray, List.set_cons_zero, List.set_cons_succ, i64_w, i32_w]
          rfl
        refine take_ (i := 31) (N := some 57) (v := ?_) (a' := ?_) #[true, true, true, true, true, true, true, true, true, true, true, true, true, true, true, true, true, true, true, true, true, true, true, true, true, true, true, true, true, true, true, true, false, true, true, true, false, false, false, false, false] rfl rfl (by kernel_rfl) (fun _ _ _ h => h) (Or.inl ⟨by rfl, ?_⟩) hHeld ?_ ?_
        rotate_left
        · rintro w' ⟨s0, s1, s2, s3⟩
          go_simp
          with_reducible rfl
        rotate_left
        · simp only [Act.put, List.setIfInBounds_toArray, List.set_cons_zero, List.set_cons_succ, i64_w, i32_w]
          rfl
        refine take_ (i := 32) (N := some 58) (v := ?_) (a' := ?_) #[true, true, true, true, true, true, true, true, true, true, true, true, true, true, true, true, true, true, true, true, true, true, true, true, true, true, true, true, true, true, true, true, true, true, true, true, false, false, false, false, false] rfl rfl (by kernel_rfl) (fun _ _ _ h => h) (Or.inl ⟨by rfl, ?_⟩) hHeld ?_ ?_
        rotate_left
        · rintro w' ⟨s0, s1, s2, s3⟩
          have hq_ := Kd.C_string (P := Try.prog) (c := c30) Try.underlying22 Try.underlying5 Try.underlying9 s3
          go_simp
          with_reducible rfl
        rotate_left
        · simp only [Act.put, List.setIfInBounds_toArray, List.set_cons_zero, List.set_cons_succ, i64_w, i32_w]
          rfl
        refine take_ (i := 36) (N := some 62) (v := ?_) (a' := ?_) #[true, true, true, true, true, true, true, true, true, true, true, true, true, true, true, true, true, true, true, true, true, true, true, true, true, true, true, true, true, true, true, true, true, true, true, true, true, false, false, false, false] rfl rfl (by kernel_rfl) (fun _ _ _ h => h) (Or.inl ⟨by rfl, ?_⟩) hHeld ?_ ?_
        rotate_left
        · rintro w' ⟨s0, s1, s2, s3⟩
          go_simp
          with_reducible rfl
        rotate_left
        · simp only [Act.put, List.setIfInBounds_toArray, List.set_cons_zero, List.set_cons_succ, i64_w, i32_w]
          rfl
        refine pure_ (i := 37) (N := some 63) (v := ?_) (a' := ?_) #[true, true, true, true, true, true, true, true, true, true, true, true, true, true, true, true, true, true, true, true, true, true, true, true, true, true, true, true, true, true, true, true, true, true, true, true, true, true, false, false, false] rfl rfl (by kernel_rfl) (fun _ _ _ h => h) (Or.inl ⟨by rfl, ?_⟩) ?_ ?_
        rotate_left
        · intro w'
          go_simp
          with_reducible rfl
        rotate_left
        · simp only [Act.put, List.setIfInBounds_toArray, List.set_cons_zero, List.set_cons_succ, i64_w, i32_w]
          rfl
        refine pure_ (i := 38) (N := some 64) (v := ?_) (a' := ?_) #[true, true, true, true, true, true, true, true, true, true, true, true, true, true, true, true, true, true, true, true, true, true, true, true, true, true, true, true, true, true, true, true, true, true, true, true, true, true, true, false, false] rfl rfl (by kernel_rfl) (fun _ _ _ h => h) (Or.inl ⟨by rfl, ?_⟩) ?_ ?_
        rotate_left
        · intro w'
          go_simp
          with_reducible rfl
        rotate_left
        · simp only [Act.put, List.setIfInBounds_toArray, List.set_cons_zero, List.set_cons_succ, i64_w, i32_w]
          rfl
        refine pure_ (i := 39) (N := some 65) (v := ?_) (a' := ?_) #[true, true, true, true, true, true, true, true, true, true, true, true, true, true, true, true, true, true, true, true, true, true, true, true, true, true, true, true, true, true, true, true, true, true, true, true, true, true, true, true, false] rfl rfl (by kernel_rfl) (fun _ _ _ h => h) (Or.inl ⟨by rfl, ?_⟩) ?_ ?_
        rotate_left
        · intro w'
          go_simp
          with_reducible rfl
        rotate_left
        · simp only [Act.put, List.setIfInBounds_toArray, List.set_cons_zero, List.set_cons_succ, i64_w, i32_w]
          rfl
        refine pure_ (i := 40) (N := some 66) (v := ?_) (a' := ?_) #[true, true, true, true, true, true, true, true, true, true, true, true, true, true, true, true, true, true, true, true, true, true, true, true, true, true, true, true, true, true, true, true, true, true, true, true, true, true, true, true, true] rfl rfl (by kernel_rfl) (fun _ _ _ h => h) (Or.inl ⟨by rfl, ?_⟩) ?_ ?_
        rotate_left
        · intro w'
          go_simp
          with_reducible rfl
        rotate_left
        · simp only [Act.put, List.setIfInBounds_toArray, List.set_cons_zero, List.set_cons_succ, i64_w, i32_w]
          rfl
        refine done_ (by kernel_rfl) ?_
        go_wp2
        go_roundg (gk - 1)
        case measure => omega
        case rel => exact ⟨x + 1, rfl, ⟨by have := hx0'.out; omega⟩, ⟨by omega⟩, ⟨by omega⟩, ⟨Kd.C_drew hN.out⟩, ⟨Kd.C_drew hW.out⟩, ⟨hRF.out.step (fun _ _ _ => rfl)⟩, ⟨below_drew1 hB.out⟩, ⟨hK.out.drew⟩⟩
    · have dx : decide (x < (R.1.length : Int)) = false := decide_eq_false (by rw [hnn]; exact hx)
      go_wp2
      go_ret
      exact ⟨rfl, hRF.out, hB.out, hK.out⟩
end Go.Proofs.Ytkndghbognhocaa.X
namespace Go.Proofs.Ytkndghbognhocaa.X
open Go.RowKit Go.Proofs.YtkndghbognhocaaW.PrintWords Go.Proofs.YtkndghbognhocaaW.PrintLast Go.Proofs.YtkndghbognhocaaW.PrintMore Go.Proofs.Ytkndghbognhocaa.Pure
set_option linter.unusedVariables false
/-- What hangs on a set of blocks alone. -/
structure Thing where
  P : World → (Nat → Prop) → Prop
  mono : ∀ {W : World} {ok ok' : Nat → Prop}, P W ok → (∀ k, ok k → ok' k) → P W ok'
  step : ∀ {W W' : World} {ok : Nat → Prop}, P W ok → (∀ k, ok k → k < W.heap.size → W'.heap[k]? = W.heap[k]?) → P W' ok
def tRF (base g : Nat) (l : List Int) (t : Bool) : Thing := ⟨fun W ok => RF true t W base ok g l, fun h hk => RD.mono h hk, fun h hm => RD.step h hm⟩
def tRM (base g : Nat) (l : List Int) (t : Bool) : Thing := ⟨fun W ok => RM t W base ok g l, fun h hk => RD.mono h hk, fun h hm => RD.step h hm⟩
def tB (base : Nat) (v : Value) (l : List Int) : Thing := ⟨fun W ok => (Kd.int .u8).R 5 W base ok v l, fun h hk => Kd.R_mono h hk, fun h hm => Kd.R_step h hm⟩
def tH (base : Nat) (v : Value) (xs : List S49) : Thing := ⟨fun W ok => HN W base ok v xs, fun h hk => Kd.N_mono h hk, fun h hm => Kd.N_step h hm⟩
def Sep (W : World) (N : Nat) (Xs : List Thing) : Prop := N ≤ W.heap.size ∧ ∃ om : Nat → Nat, ∀ i (X : Thing), Xs[i]? = some X → X.P W (fun k => om k = i ∧ k < N)
theorem Sep.nil (W : World) : Sep W W.heap.size [] := ⟨Nat.le_refl _, fun _ => 0, fun i X h => by cases h⟩
theorem Sep.below {W W' : World} {N : Nat} {Xs : List Thing} (h : Sep W N Xs) (hb : Below W.heap.size W W') : Sep W' N Xs := by
  obtain ⟨hN, om, hx⟩ := h
  exact ⟨Nat.le_trans hN hb.size, om, fun i X hi => X.step (hx i X hi) (fun k _ hlt => hb.block k hlt)⟩
/-- One more, in blocks that are new. -/
theorem Sep.add {W : World} {N : Nat} {Xs : List Thing} (h : Sep W N Xs) (Y : Thing) (hY : Y.P W (fun k => N ≤ k ∧ k < W.heap.size)) : Sep W W.heap.size (Xs ++ [Y]) := by
  obtain ⟨hN, om, hx⟩ := h
  refine ⟨Nat.le_refl _, fun k => if k < N then om k else Xs.length, fun i X hi => ?_⟩
  rcases Nat.lt_trichotomy i Xs.length with hlt | heq | hgt
  · rw [List.getElem?_append_left hlt] at hi
    exact X.mono (hx i X hi) (fun k hk => ⟨by dsimp only; rw [if_pos hk.2]; exact hk.1, by omega⟩)
  · subst heq
    rw [List.getElem?_append_right (Nat.le_refl _), Nat.sub_self] at hi
    injection hi with hi
    subst hi
    exact Y.mono hY (fun k hk => ⟨by dsimp only; rw [if_neg (by omega)], hk.2⟩)
  · rw [List.getElem?_eq_none (by simp; omega)] at hi
    cases hi
/-- One of them is taken, and written: the others stay. -/
theorem Sep.upd {W : World} {N : Nat} {Xs : List Thing} (h : Sep W N Xs) (i : Nat) (X : Thing) (hi : Xs[i]? = some X) :
    ∃ S : Nat → Prop, X.P W S ∧ (∀ k, S k → k < N) ∧ ∀ (W' : World) (X' : Thing), Kept W W' S → X'.P W' (fun k => (S k ∨ W.heap.size ≤ k) ∧ k < W'.heap.size) → Sep W' W'.heap.size (Xs.set i X') := by
  obtain ⟨hN, om, hx⟩ := h
  refine ⟨fun k => om k = i ∧ k < N, hx i X hi, fun k hk => hk.2, fun W' X' hK hX' => ?_⟩
  have hil : i < Xs.length := (List.getElem?_eq_some_iff.1 hi).1
  refine ⟨Nat.le_refl _, fun k => if k < N then om k else if k < W.heap.size then Xs.length else i, fun j Y hj => ?_⟩
  by_cases hji : j = i
  · subst hji
    rw [List.getElem?_set_self hil] at hj
    injection hj with hj
    subst hj
    refine X'.mono hX' (fun k hk => ⟨?_, hk.2⟩)
    rcases hk.1 with h1 | h1
    · dsimp only; rw [if_pos h1.2]; exact h1.1
    · dsimp only; rw [if_neg (by omega), if_neg (by omega)]
  · rw [List.getElem?_set_ne (fun h => hji h.symm)] at hj
    have hY := Y.mono (hx j Y hj) (ok' := fun k => om k = j ∧ k < N) (fun k hk => hk)
    have hY2 := Y.step hY (W' := W') (fun k hk hlt => hK.2 k hlt (fun hs => hji (hk.1.symm.trans hs.1)))
    exact Y.mono hY2 (fun k hk => ⟨by dsimp only; rw [if_pos hk.2]; exact hk.1, Nat.lt_of_lt_of_le hk.2 (Nat.le_trans hN hK.1)⟩)
/-- The last ones are let go. -/
theorem Sep.take {W : World} {N : Nat} {Xs : List Thing} (h : Sep W N Xs) (n : Nat) : Sep W N (Xs.take n) := by
  obtain ⟨hN, om, hx⟩ := h
  exact ⟨hN, om, fun i X hi => hx i X (by rw [List.getElem?_take] at hi; split at hi; exact hi; cases hi)⟩
theorem Sep.get {W : World} {N : Nat} {Xs : List Thing} (h : Sep W N Xs) (i : Nat) (X : Thing) (hi : Xs[i]? = some X) : ∃ S : Nat → Prop, X.P W S ∧ ∀ k, S k → k < N := by
  obtain ⟨S, h1, h2, _⟩ := h.upd i X hi
  exact ⟨S, h1, h2⟩
/-- New has made a reader. -/
theorem Sep.new {W W' : World} {N : Nat} {Xs : List Thing} (h : Sep W N Xs) {base g : Nat} (hb : base ≤ W.heap.size) (hr : RF true false W' W.heap.size (fun _ => True) g []) (hB : Below W.heap.size W W') : Sep W' W'.heap.size (Xs ++ [tRF base g [] false]) :=
  (h.below hB).add _ (show RF true false W' base (fun k => N ≤ k ∧ k < W'.heap.size) g [] from RD.mono (RD.lower (RD.bound2 hr) hb) (fun k hk => ⟨Nat.le_trans h.1 hk.2.1, hk.2.2⟩))
theorem Sep.newM {W W' : World} {N : Nat} {Xs : List Thing} (h : Sep W N Xs) {base g : Nat} (hb : base ≤ W.heap.size) (hr : RM false W' W.heap.size (fun _ => True) g []) (hB : Below W.heap.size W W') : Sep W' W'.heap.size (Xs ++ [tRM base g [] false]) :=
  (h.below hB).add _ (show RM false W' base (fun k => N ≤ k ∧ k < W'.heap.size) g [] from RD.mono (RD.lower (RD.bound2 hr) hb) (fun k hk => ⟨Nat.le_trans h.1 hk.2.1, hk.2.2⟩))
/-- hears, of reader i among them -/
theorem Sep.hears {w W : World} {N : Nat} {Xs : List Thing} (h : Sep W N Xs) (i g : Nat) (l : List Int) (t : Bool) (hi : Xs[i]? = some (tRF w.heap.size g l t)) (hB : Below w.heap.size w W)
    (hBI : BI l) (lb : List Int) (hBb : BI lb) (hll : l.length + lb.length ≤ 1048576) (A1 : Option Addr) (n c1 : Nat) (hn : lb.length = n) (hb : CB W A1 n lb) (hc : n ≤ c1)
    (want : List ByteArray) (A2 : Option Addr) (m c2 : Nat) (hwm : want.length = m) (hF : Kd.F Kd.string W (fun k => N ≤ k) A2 m want) (hc2 : m ≤ c2)
    (R : List S49 × List Int × Bool) (hR : allI 1000 (l ++ lb) t = R) (hRn : R.1.length = want.length) (hm : ∀ x : Int, 0 ≤ x → x < (want.length : Int) → hit (rd_T49 R.1 x) (rdOf ByteArray.empty want x)) :
    Calls Try.prog 31 #[.pointer (some ⟨g, 0, none⟩), .slice A1 n c1, .slice A2 m c2] W fun e W' => e = .returned (.bool true) ∧ Sep W' W'.heap.size (Xs.set i (tRF w.heap.size g R.2.1 R.2.2)) ∧ Below w.heap.size w W' := by
  subst hn
  subst hwm
  obtain ⟨S, hX, hS, hup⟩ := h.upd i _ hi
  refine (hears_true S g t l lb hBI hBb hll w W hB hX A1 c1 hb hc want A2 c2 (Kd.F_mono hF (fun k hk hs => by have := hS k hs; omega)) hc2 R hR hRn hm).mono ?_
  rintro e W' ⟨rfl, hr, hB', hK⟩
  exact ⟨rfl, hup W' (tRF w.heap.size g R.2.1 R.2.2) hK (RD.bound hr), hB'⟩
theorem F_lit {W : World} {b N : Nat} {ok : Nat → Prop} {A : Option Addr} {n c : Nat} {want : List ByteArray} (h : Kd.string.R 9 W b ok (.slice A n c) want) (hN : N ≤ b) : Kd.F Kd.string W (fun k => N ≤ k) A n want :=
  Kd.F_mono (Kd.R_F (Kd.R_bound h)) (fun k hk => Nat.le_trans hN hk.2.1)
end Go.Proofs.Ytkndghbognhocaa.X
namespace Go.Proofs.Ytkndghbognhocaa.Pure
set_option linter.unusedVariables false
set_option linter.unusedSimpArgs false
open Go.RowKit Go.Proofs.Ytkndghbognhocaa.X Go.Proofs.YtkndghbognhocaaW.PrintWords Go.Proofs.YtkndghbognhocaaW.PrintLast Go.Proofs.YtkndghbognhocaaW.PrintMore
theorem skip_begins {l : List Int} (h : beginsI l = true) : skipL l = l := by
  cases l with
  | nil => rfl
  | cons x t => rw [skipL, if_pos h]
theorem num3_head (n : Nat) (h : n < 16777216) : num3 ((n : Int) / 65536 % 256) ((n : Int) / 256 % 256) ((n : Int) % 256) = (n : Int) := by unfold num3; omega
theorem begins_headL (n : Nat) (r : List Int) (h : n ≤ 300000) : beginsI (headL n ++ r) = true := by
  have hl : ¬ (headL n ++ r).length < 9 := by rw [List.length_append, headL_length]; omega
  unfold beginsI
  rw [Bool.and_eq_true, decide_eq_true_eq]
  refine ⟨?_, ?_⟩
  · rw [show (headL n ++ r).take 2 = [73, 81] from rfl, List.take_of_length_le]
    simp only [List.length_cons, List.length_nil]; omega
  · rw [decide_eq_false hl, Bool.false_or, Bool.and_eq_true, decide_eq_true_eq, decide_eq_true_eq]
    refine ⟨rfl, ?_⟩
    have : num3 ((headL n ++ r).getD 2 0) ((headL n ++ r).getD 3 0) ((headL n ++ r).getD 4 0) = (n : Int) := num3_head n (by omega)
    rw [this]; omega
theorem frameL_eq (x r : List Int) : frameL x ++ r = headL x.length ++ (x ++ (crc4 (headL x.length ++ x) ++ r)) := by
  rw [frameL, sealL, List.append_assoc, List.append_assoc]
theorem size_headL (n : Nat) (r : List Int) (h : n ≤ 300000) : sizeN (headL n ++ r) = n := by
  have : num3 ((headL n ++ r).getD 2 0) ((headL n ++ r).getD 3 0) ((headL n ++ r).getD 4 0) = (n : Int) := num3_head n (by omega)
  unfold sizeN
  rw [this]; exact Int.toNat_natCast n
/-- A frame at the front is answered. -/
theorem next_frame (x r : List Int) (t : Bool) (h : x.length ≤ 300000) : nextI (frameL x ++ r) t = ((x, true, 0), r, false) := by
  have hb : beginsI (frameL x ++ r) = true := by rw [frameL_eq]; exact begins_headL _ _ h
  have hsz : sizeN (frameL x ++ r) = x.length := by rw [frameL_eq]; exact size_headL _ _ h
  have hlen : (frameL x ++ r).length = x.length + 13 + r.length := by rw [List.length_append, frameL_length]
  have hhx : (headL x.length ++ x).length = 9 + x.length := by rw [List.length_append, headL_length]
  have e1 : (frameL x ++ r).take (9 + x.length) = headL x.length ++ x := by
    rw [frameL, sealL, List.append_assoc, ← hhx, List.take_left]
  have e2 : ((frameL x ++ r).take (13 + x.length)).drop (9 + x.length) = crc4 (headL x.length ++ x) := by
    have h1 : (frameL x).length = 13 + x.length := by rw [frameL_length]; omega
    rw [← h1, List.take_left, frameL, sealL, ← hhx, List.drop_left]
  have e3 : (frameL x ++ r).drop (13 + x.length) = r := by
    have h1 : (frameL x).length = 13 + x.length := by rw [frameL_length]; omega
    rw [← h1, List.drop_left]
  have e4 : (headL x.length ++ x).drop 9 = x := by
    have h1 := headL_length x.length
    rw [← h1, List.drop_left]
  unfold nextI
  simp only [skip_begins hb, hsz]
  rw [if_neg (by omega), if_neg (by omega), if_neg (by omega), e1, e2, if_pos rfl, e3, e4]
theorem next_nil (t : Bool) : nextI [] t = (([], false, 0), [], t) := by cases t <;> decide +kernel
theorem allI_step {n : Nat} {l l' a : List Int} {t is t' : Bool} {e : Int} (h : nextI l t = ((a, is, e), l', t')) (hne : ¬ (is = false ∧ e = 0)) : allI (n + 1) l t = (⟨a, is, e⟩ :: (allI n l' t').1, (allI n l' t').2) := by
  rw [allI_succ, h, if_neg hne]
theorem allI_stop {n : Nat} {l l' a : List Int} {t t' : Bool} (h : nextI l t = ((a, false, 0), l', t')) : allI (n + 1) l t = ([], l', t') := by
  rw [allI_succ, h, if_pos ⟨rfl, rfl⟩]
theorem all_nil (n : Nat) (t : Bool) : allI (n + 1) [] t = ([], [], t) := allI_stop (next_nil t)
theorem all_frame (n : Nat) (x r : List Int) (t : Bool) (h : x.length ≤ 300000) : allI (n + 1) (frameL x ++ r) t = (⟨x, true, 0⟩ :: (allI n r false).1, (allI n r false).2) := allI_step (next_frame x r t h) (by simp)
/-- what stands ahead of a head is told once -/
theorem skip_junk (j l : List Int) (hj : ∀ x ∈ j, x ≠ 73) : skipL (j ++ l) = skipL l := by
  induction j with
  | nil => rfl
  | cons x j ih =>
    show skipL (x :: (j ++ l)) = skipL l
    rw [skipL, if_neg (fun h => hj x (by simp) (begins_head h))]
    exact ih (fun y hy => hj y (by simp [hy]))
theorem next_junk (j l : List Int) (hj : ∀ x ∈ j, x ≠ 73) (h0 : j ≠ []) : nextI (j ++ l) false = (([], false, 4), skipL l, true) := by
  unfold nextI
  simp only [skip_junk j l hj]
  rw [if_pos]
  have := skip_le l
  have : 0 < j.length := List.length_pos_iff.2 h0
  rw [List.length_append]
  exact ⟨by omega, trivial⟩
theorem all1 : allI 1000 ([] ++ (frameL [97] ++ frameL [])) false = ([⟨[97], true, 0⟩, ⟨[], true, 0⟩], [], false) := by
  rw [List.nil_append, show (1000 : Nat) = 999 + 1 from rfl, all_frame 999 [97] (frameL []) false (by decide), show (999 : Nat) = 998 + 1 from rfl, ← List.append_nil (frameL []), all_frame 998 [] [] false (by decide), show (998 : Nat) = 997 + 1 from rfl, all_nil]
theorem next_I : nextI [73] false = (([], false, 0), [73], false) := by decide +kernel
theorem next_IJ : nextI [73, 74] false = (([], false, 4), [], true) := by decide +kernel
theorem all2 : allI 1000 ([] ++ (([120, 121, 122] ++ frameL [97]) ++ [73])) false = ([⟨[], false, 4⟩, ⟨[97], true, 0⟩], [73], false) := by
  have hsk : skipL (frameL [97] ++ [73]) = frameL [97] ++ [73] := skip_begins (by rw [frameL_eq]; exact begins_headL _ _ (by decide))
  rw [List.nil_append, List.append_assoc, show (1000 : Nat) = 999 + 1 from rfl, allI_step (next_junk [120, 121, 122] (frameL [97] ++ [73]) (by decide) (by decide)) (by decide), hsk, show (999 : Nat) = 998 + 1 from rfl, all_frame 998 [97] [73] true (by decide), show (998 : Nat) = 997 + 1 from rfl, allI_stop next_I]
theorem all3 : allI 1000 ([73] ++ [74]) false = ([⟨[], false, 4⟩], [], true) := by
  rw [show ([73] ++ [74] : List Int) = [73, 74] from rfl, show (1000 : Nat) = 999 + 1 from rfl, allI_step next_IJ (by decide), show (999 : Nat) = 998 + 1 from rfl, all_nil]
theorem all4 : allI 1000 ([] ++ frameL [98]) true = ([⟨[98], true, 0⟩], [], false) := by
  rw [List.nil_append, ← List.append_nil (frameL [98]), show (1000 : Nat) = 999 + 1 from rfl, all_frame 999 [98] [] true (by decide), show (999 : Nat) = 998 + 1 from rfl, all_nil]
theorem next_part (l : List Int) (h2 : l.take 2 = [73, 81]) (h9 : l.length < 9) (t : Bool) : nextI l t = (([], false, 0), l, t) := by
  have hb : beginsI l = true := by
    unfold beginsI
    rw [Bool.and_eq_true, decide_eq_true_eq, h2, decide_eq_true h9, Bool.true_or]
    refine ⟨?_, rfl⟩
    have : 2 ≤ l.length := by have := congrArg List.length h2; rw [List.length_take] at this; simp at this; omega
    rw [List.take_of_length_le (by simpa using this)]
  unfold nextI
  simp only [skip_begins hb]
  rw [if_neg (by omega), if_pos h9]
theorem all5 : allI 1000 ([] ++ (frameL [97]).take 8) false = ([], (frameL [97]).take 8, false) := by
  rw [List.nil_append, show (1000 : Nat) = 999 + 1 from rfl, allI_stop (next_part _ rfl (by rw [List.length_take]; omega) false)]
theorem all6 : allI 1000 ((frameL [97]).take 8 ++ (frameL [97]).drop 8) false = ([⟨[97], true, 0⟩], [], false) := by
  rw [List.take_append_drop, ← List.append_nil (frameL [97]), show (1000 : Nat) = 999 + 1 from rfl, all_frame 999 [97] [] false (by decide), show (999 : Nat) = 998 + 1 from rfl, all_nil]
end Go.Proofs.Ytkndghbognhocaa.Pure
namespace Go.Proofs.Ytkndghbognhocaa.X
open Go.RowKit Go.Proofs.YtkndghbognhocaaW.PrintWords Go.Proofs.YtkndghbognhocaaW.PrintLast Go.Proofs.YtkndghbognhocaaW.PrintMore Go.Proofs.Ytkndghbognhocaa.Pure
attribute [local go_sem] max2_int min2_int max_two min_two max_three min_three max_four min_four
set_option linter.unusedVariables false
set_option linter.unusedSimpArgs false
theorem RC {W : World} {b : Nat} {ok : Nat → Prop} {A : Option Addr} {n c : Nat} {l : List Int} (h : (Kd.int .u8).R 5 W b ok (.slice A n c) l) : l.length = n ∧ CB W A n l ∧ n ≤ c := by
  have h2 := Kd.R_reads' h
  have h1 := h2.1
  subst h1
  exact ⟨rfl, h2.2.2, h2.2.1⟩
theorem F_nil (W : World) (ok : Nat → Prop) : Kd.F Kd.string W ok none 0 [] := fun W' _ => Kd.C_nil _ _
theorem CBn_to (A : Option Addr) (c : Nat) (l : List Int) (n j : Nat) (hn : l.length = n) (hj : j ≤ n) (hc : n ≤ c) :
    (∀ W, (Instr.slice 22 (.slice A n c) none (some (.int .i64 (j : Int))) none).run Try.prog W = .ok (.slice A j c) W) ∧ (∀ w, CB w A n l → CB w A j (l.take j)) := by
  subst hn
  exact CB_to A c l j hj hc
theorem CBn_from (A : Option Addr) (c : Nat) (l : List Int) (n j : Nat) (hn : l.length = n) (hj : j ≤ n) (hc : n ≤ c) :
    ∃ A' c', (∀ W, (Instr.slice 22 (.slice A n c) (some (.int .i64 (j : Int))) none none).run Try.prog W = .ok (.slice A' (n - j) c') W) ∧ (∀ w, CB w A n l → CB w A' (n - j) (l.drop j)) ∧ n - j ≤ c' := by
  subst hn
  exact CB_from A c l j hj hc
theorem hits_nil (R : List S49) (want : List ByteArray) (h : want.length = 0) : ∀ x : Int, 0 ≤ x → x < (want.length : Int) → hit (rd_T49 R x) (rdOf ByteArray.empty want x) := fun x h0 h1 => by omega
theorem hits1 (o : S49) (s : ByteArray) (h : hit o s) : ∀ x : Int, 0 ≤ x → x < (([s] : List ByteArray).length : Int) → hit (rd_T49 [o] x) (rdOf ByteArray.empty [s] x) := fun x h0 h1 => by
  obtain rfl : x = 0 := by simp at h1; omega
  exact h
theorem hits2 (o p : S49) (s t : ByteArray) (h : hit o s) (k : hit p t) : ∀ x : Int, 0 ≤ x → x < (([s, t] : List ByteArray).length : Int) → hit (rd_T49 [o, p] x) (rdOf ByteArray.empty [s, t] x) := fun x h0 h1 => by
  have : x = 0 ∨ x = 1 := by simp at h1; omega
  rcases this with rfl | rfl
  · exact h
  · exact k
theorem hit_a : hit ⟨[97], true, 0⟩ ⟨#[97]⟩ := .inr ⟨by decide +kernel, rfl, by decide +kernel⟩
theorem hit_b : hit ⟨[98], true, 0⟩ ⟨#[98]⟩ := .inr ⟨by decide +kernel, rfl, by decide +kernel⟩
theorem hit_e : hit ⟨[], true, 0⟩ ⟨#[]⟩ := .inr ⟨by decide +kernel, rfl, by decide +kernel⟩
theorem hit_s : hit ⟨[], false, 4⟩ ⟨#[33]⟩ := .inl ⟨by decide +kernel, rfl⟩
theorem bytes_a : bytesOf ⟨#[97]⟩ = [97] := by decide +kernel
theorem bytes_b : bytesOf ⟨#[98]⟩ = [98] := by decide +kernel
theorem bytes_e : bytesOf ⟨#[]⟩ = [] := by decide +kernel
theorem BI_a : BI [97] := BI_of _ (by decide)
theorem BI_b : BI [98] := BI_of _ (by decide)
theorem BI_m : BI [73] := BI_of _ (by decide)
theorem BI_j : BI [74] := BI_of _ (by decide)
theorem BI_x : BI [120, 121, 122] := BI_of _ (by decide)
theorem len_a : (frameL [97]).length = 14 := frameL_length _
theorem len_b : (frameL [98]).length = 14 := frameL_length _
theorem len_e : (frameL []).length = 13 := frameL_length _
set_option maxHeartbeats 16000000 in
set_option maxRecDepth 100000 in
theorem awake_calls (w : World) : Calls Try.prog 14 #[] w fun e w' => e = .returned (.bool true) ∧ Below w.heap.size w w' := by
  go_enter Try.func14, Try.ntmps14
  go_upto_region 2 with (first | (go_at_call 15; refine (New_rf _).mono ?_; rintro e w3 ⟨gc, rfl, hr3, hb3⟩; have s3 := s2.new (base := w.heap.size) hB2.size hr3 hb3; have hB3 := below_step hB2 hb3; clear s2 hB2 hr3) | (go_at_call 15; refine (New_rf _).mono ?_; rintro e w2 ⟨gb, rfl, hr2, hb2⟩; have s2 := s1.new (base := w.heap.size) hb1.size hr2 hb2; have hB2 := below_step hb1 hb2; clear s1 hb1 hr2 hb2) | (go_at_call 15; refine (New_rf w).mono ?_; rintro e w1 ⟨ga, rfl, hr1, hb1⟩; have s1 := (Sep.nil w).new (base := w.heap.size) (Nat.le_refl _) hr1 hb1; clear hr1))
  go_upto_region 3 with (first | (have g_ := hRA; clear g_; go_at_call 27; refine (framed_calls ⟨#[]⟩ [] bytes_e BI_nil (by decide) _).mono ?_; rintro e wE ⟨vE, rfl, hRE, hbE_⟩; obtain ⟨AE, cE, rfl⟩ := Kd.R_slice hRE; have hbE := below_step hbA hbE_; have hRA' := Kd.R_below hRA hbE_) | (go_at_call 27; refine (framed_calls ⟨#[97]⟩ [97] bytes_a BI_a (by decide) _).mono ?_; rintro e wA ⟨vA, rfl, hRA, hbA_⟩; obtain ⟨AA, cA, rfl⟩ := Kd.R_slice hRA; have hbA := hbA_) | ((with_reducible refine gate_builtin (b := .append) (xs := #[.tmp 11, .tmp 12]) rfl ?_); at_builtin; refine Kd.R_append_rows_wide (Kd.int .u8) (w0 := w3) w3.heap.size rfl (.tmp 11) (.tmp 12) 22 5 (.int .u8 0) 1 rfl Try.underlying22 info5 rfl (by decide) (by omega) _ (frameL [97]) (frameL []) AE (frameL []).length cE (fun _ => True) (fun _ => False) rfl rfl hRA' (Kd.R_reads' hRE).2.2 (fun _ _ h => h) (fun _ h => h.elim) (fun _ _ => trivial) hbE hbE.size (by rw [len_a, len_e]; decide) ?_; intro vP wP hRP hbP hgP hatP; obtain ⟨AP, cP, eP⟩ := Kd.R_slice hRP; rw [List.length_append] at eP; subst eP) | ((with_reducible refine gate_dst (N := 14) rfl ?_); (try (refine gate_guard (by rfl) ?_; dsimp only)); refine Kd.R_lit Kd.string (w0 := _) (N := 14) _ 9 rfl rfl (xs := [(⟨#[97]⟩ : ByteArray), (⟨#[]⟩ : ByteArray)]) (inner := [.string ⟨#[97]⟩, .string ⟨#[]⟩]) (ok := fun _ => True) (okp := fun _ => False) (by first | (go_simp; done) | (go_simp; rfl)) (Reps.one (show Kd.string.M _ _ _ (⟨#[97]⟩ : ByteArray) [.string ⟨#[97]⟩] from rfl) (Reps.one (show Kd.string.M _ _ _ (⟨#[]⟩ : ByteArray) [.string ⟨#[]⟩] from rfl) (Reps.none _ _))) (fun _ h => h.elim) trivial (Below.refl _ _) (Nat.le_refl _) (by simp) ?_; intro vL wL hRL hbL_ hgL hnL; obtain ⟨AL, cL, eL⟩ := Kd.R_slice hRL; rw [show ([(⟨#[97]⟩ : ByteArray), (⟨#[]⟩ : ByteArray)] : List ByteArray).length = 2 from rfl] at eL; subst eL; have hzL := hbP.size; have hbL := below_step hbP hbL_; have hRP' := Kd.R_below hRP hbL_) | (have g_ := hRP'; clear g_; go_at_call 31; have sBH := Sep.below s3 hbL; refine (Sep.hears (w := w) sBH 0 ga [] false rfl (below_step hB3 hbL) BI_nil (frameL [97] ++ frameL []) (BI_append (frameL_BI BI_a) (frameL_BI BI_nil)) (by simp [List.length_append, frameL_length]) _ _ _ (RC hRP').1 (RC hRP').2.1 (RC hRP').2.2 [(⟨#[97]⟩ : ByteArray), (⟨#[]⟩ : ByteArray)] _ _ _ rfl (F_lit hRL hbP.size) (Kd.R_reads' hRL).2.1 ([⟨[97], true, 0⟩, ⟨[], true, 0⟩], [], false) all1 rfl (hits2 _ _ _ _ hit_a hit_e)).mono ?_; rintro e wH ⟨rfl, sH, hBH⟩) | (have g_ := sH; clear g_; go_at_call 22; obtain ⟨Sx, hx, _⟩ := sH.get 0 _ rfl; refine (Waits_rf ga _ _ _ _ _ hx).mono ?_; rintro e w4 ⟨rfl, rfl⟩))
  go_upto_region 4 with (first | (have g_ := hRB'; clear g_; go_at_call 31; have sBN := Sep.below sK hbO; refine (Sep.hears (w := w) sBN 1 gb [] true rfl (below_step hBK hbO) BI_nil (frameL [98]) (frameL_BI BI_b) (by simp [List.length_append, frameL_length]) _ _ _ (RC hRB').1 (RC hRB').2.1 (RC hRB').2.2 [(⟨#[98]⟩ : ByteArray)] _ _ _ rfl (F_lit hRO hbB.size) (Kd.R_reads' hRO).2.1 ([⟨[98], true, 0⟩], [], false) all4 rfl (hits1 _ _ hit_b)).mono ?_; rintro e wN ⟨rfl, sN, hBN⟩; clear hbB hbO) | ((with_reducible refine gate_dst (N := 40) rfl ?_); (try (refine gate_guard (by rfl) ?_; dsimp only)); refine Kd.R_lit Kd.string (w0 := _) (N := 40) _ 9 rfl rfl (xs := [(⟨#[98]⟩ : ByteArray)]) (inner := [.string ⟨#[98]⟩]) (ok := fun _ => True) (okp := fun _ => False) (by first | (go_simp; done) | (go_simp; rfl)) (Reps.one (show Kd.string.M _ _ _ (⟨#[98]⟩ : ByteArray) [.string ⟨#[98]⟩] from rfl) (Reps.none _ _)) (fun _ h => h.elim) trivial (Below.refl _ _) (Nat.le_refl _) (by simp) ?_; intro vO wO hRO hbO_ hgO hnO; obtain ⟨AO, cO, eO⟩ := Kd.R_slice hRO; rw [show ([(⟨#[98]⟩ : ByteArray)] : List ByteArray).length = 1 from rfl] at eO; subst eO; have hzO := hbB.size; have hbO := below_step hbB hbO_; have hRB' := Kd.R_below hRB hbO_) | (have g_ := sK; clear g_; go_at_call 27; refine (framed_calls ⟨#[98]⟩ [98] bytes_b BI_b (by decide) _).mono ?_; rintro e wB ⟨vB, rfl, hRB, hbB_⟩; obtain ⟨AB, cB, rfl⟩ := Kd.R_slice hRB; have hbB := hbB_) | (have g_ := hCJ'; clear g_; go_at_call 31; have sBK := Sep.below sI hbM; refine (Sep.hears (w := w) sBK 1 gb [73] false rfl (below_step hBI hbM) BI_m [74] BI_j (by simp [List.length_append, frameL_length]) _ _ _ rfl hCJ' (Nat.le_refl _) [(⟨#[33]⟩ : ByteArray)] _ _ _ rfl (F_lit hRM hbJ.size) (Kd.R_reads' hRM).2.1 ([⟨[], false, 4⟩], [], true) all3 rfl (hits1 _ _ hit_s)).mono ?_; rintro e wK ⟨rfl, sK, hBK⟩; clear hbJ hbM hRM) | ((with_reducible refine gate_dst (N := 34) rfl ?_); (try (refine gate_guard (by rfl) ?_; dsimp only)); refine Kd.R_lit Kd.string (w0 := _) (N := 34) _ 9 rfl rfl (xs := [(⟨#[33]⟩ : ByteArray)]) (inner := [.string ⟨#[33]⟩]) (ok := fun _ => True) (okp := fun _ => False) (by first | (go_simp; done) | (go_simp; rfl)) (Reps.one (show Kd.string.M _ _ _ (⟨#[33]⟩ : ByteArray) [.string ⟨#[33]⟩] from rfl) (Reps.none _ _)) (fun _ h => h.elim) trivial (Below.refl _ _) (Nat.le_refl _) (by simp) ?_; intro vM wM hRM hbM_ hgM hnM; obtain ⟨AM, cM, eM⟩ := Kd.R_slice hRM; rw [show ([(⟨#[33]⟩ : ByteArray)] : List ByteArray).length = 1 from rfl] at eM; subst eM; have hzM := hbJ.size; have hbM := below_step hbJ hbM_; have hCJ' := Kd.C_below hCJ hbM_) | ((with_reducible refine gate_dst (N := 32) rfl ?_); (try (refine gate_guard (by rfl) ?_; dsimp only)); refine Kd.R_lit_keep (Kd.int .u8) (w0 := _) (N := 32) _ 5 rfl rfl (xs := [74]) (inner := [.int .u8 74]) (ok := fun _ => True) (okp := fun _ => False) (by first | (go_simp; done) | (go_simp; rfl)) (Reps.one (show (Kd.int .u8).M _ _ _ 74 [.int .u8 74] from rfl) (Reps.none _ _)) (fun _ h => h.elim) trivial (Below.refl _ _) (Nat.le_refl _) (by simp) ?_; intro vJ wJ_ hoJ hbJ_ hgJ hnJ hkJ; obtain ⟨AJ, eJ⟩ := hkJ; obtain ⟨gJ, capJ, eJ', _⟩ := Kd.R_form hoJ (by decide); rw [eJ] at eJ'; have hAJ : AJ = some ⟨gJ, 0, none⟩ := (by injection eJ'); clear eJ'; subst hAJ; subst eJ; obtain ⟨wJ, hcvJ, hLJ, hbbJ, hggJ⟩ := Kd.L_conv' (P := Try.prog) (t := 22) Try.underlying22 Try.underlying5 hoJ (by decide) hbJ_ (Nat.le_refl _); have hcvJ' : (convert 22 22 (.slice (some ⟨gJ, 0, none⟩) 1 1)).run Try.prog wJ_ = .ok (.slice (some ⟨gJ, 0, none⟩) 1 1) wJ := hcvJ; clear hcvJ; obtain ⟨AJ', cJ', heJ, hlJ, hCJ, _⟩ := hLJ; have hAJ' : (some ⟨gJ, 0, none⟩ : Option Addr) = AJ' := (by injection heJ); subst hAJ'; clear heJ hlJ; have hbJ := hbbJ) | (have g_ := hRQ'; clear g_; go_at_call 31; have sBI := Sep.below sH hbL; refine (Sep.hears (w := w) sBI 1 gb [] false rfl (below_step hBH hbL) BI_nil (([120, 121, 122] ++ frameL [97]) ++ [73]) (BI_append (BI_append BI_x (frameL_BI BI_a)) BI_m) (by simp [List.length_append, frameL_length]) _ _ _ (RC hRQ').1 (RC hRQ').2.1 (RC hRQ').2.2 [(⟨#[33]⟩ : ByteArray), (⟨#[97]⟩ : ByteArray)] _ _ _ rfl (F_lit hRL hbQ.size) (Kd.R_reads' hRL).2.1 ([⟨[], false, 4⟩, ⟨[97], true, 0⟩], [73], false) all2 rfl (hits2 _ _ _ _ hit_s hit_a)).mono ?_; rintro e wI ⟨rfl, sI, hBI⟩; clear hbX hbA hbP hbI hbQ hbL hRA hRP hRQ hRL) | ((with_reducible refine gate_dst (N := 28) rfl ?_); (try (refine gate_guard (by rfl) ?_; dsimp only)); refine Kd.R_lit Kd.string (w0 := _) (N := 28) _ 9 rfl rfl (xs := [(⟨#[33]⟩ : ByteArray), (⟨#[97]⟩ : ByteArray)]) (inner := [.string ⟨#[33]⟩, .string ⟨#[97]⟩]) (ok := fun _ => True) (okp := fun _ => False) (by first | (go_simp; done) | (go_simp; rfl)) (Reps.one (show Kd.string.M _ _ _ (⟨#[33]⟩ : ByteArray) [.string ⟨#[33]⟩] from rfl) (Reps.one (show Kd.string.M _ _ _ (⟨#[97]⟩ : ByteArray) [.string ⟨#[97]⟩] from rfl) (Reps.none _ _))) (fun _ h => h.elim) trivial (Below.refl _ _) (Nat.le_refl _) (by simp) ?_; intro vL wL hRL hbL_ hgL hnL; obtain ⟨AL, cL, eL⟩ := Kd.R_slice hRL; rw [show ([(⟨#[33]⟩ : ByteArray), (⟨#[97]⟩ : ByteArray)] : List ByteArray).length = 2 from rfl] at eL; subst eL; have hzL := hbQ.size; have hbL := below_step hbQ hbL_; have hRQ' := Kd.R_below hRQ hbL_) | ((with_reducible refine gate_builtin (b := .append) (xs := #[.tmp 25, .tmp 26]) rfl ?_); at_builtin; refine Kd.R_append_rows_wide (Kd.int .u8) (w0 := wA) wA.heap.size rfl (.tmp 25) (.tmp 26) 22 5 (.int .u8 0) 1 rfl Try.underlying22 info5 rfl (by decide) (by omega) _ ([120, 121, 122] ++ frameL [97]) [73] AI 1 cI (fun _ => True) (fun _ => False) rfl rfl hRP' (Kd.R_reads' hRI).2.2 (fun _ _ h => h) (fun _ h => h.elim) (fun _ _ => trivial) (below_step hbP_ hbI_) (below_step hbP_ hbI_).size (by rw [List.length_append, len_a]; decide) ?_; intro vQ wQ hRQ hbQ_ hgQ hatQ; obtain ⟨AQ, cQ, eQ⟩ := Kd.R_slice hRQ; rw [List.length_append, List.length_append, show ([120, 121, 122] : List Int).length = 3 from rfl, show ([73] : List Int).length = 1 from rfl] at eQ; subst eQ; have hbQ := (below_weaken (below_step hbX hbA_) (Nat.le_trans hbX.size hbA_.size) hbQ_)) | ((with_reducible refine gate_dst (N := 26) rfl ?_); (try (refine gate_guard (by rfl) ?_; dsimp only)); refine Kd.R_lit (Kd.int .u8) (w0 := _) (N := 26) _ 5 rfl rfl (xs := [73]) (inner := [.int .u8 73]) (ok := fun _ => True) (okp := fun _ => False) (by first | (go_simp; done) | (go_simp; rfl)) (Reps.one (show (Kd.int .u8).M _ _ _ 73 [.int .u8 73] from rfl) (Reps.none _ _)) (fun _ h => h.elim) trivial (Below.refl _ _) (Nat.le_refl _) (by simp) ?_; intro vI wI hRI hbI_ hgI hnI; obtain ⟨AI, cI, eI⟩ := Kd.R_slice hRI; rw [show ([73] : List Int).length = 1 from rfl] at eI; subst eI; have hbI := below_step hbP hbI_; have hRP' := Kd.R_below hRP hbI_) | ((with_reducible refine gate_builtin (b := .append) (xs := #[.tmp 23, .tmp 24]) rfl ?_); at_builtin; refine Kd.R_append_keep (w0 := wA) wA.heap.size rfl (.tmp 23) (.tmp 24) 22 5 (.int .u8 0) 1 rfl Try.underlying22 info5 rfl (by decide) (some ⟨gX, 0, none⟩) 3 [120, 121, 122] (frameL [97]) AA (frameL [97]).length cA (fun _ => True) 3 rfl rfl rfl (by decide) (by rw [len_a]; decide) hCX' (Kd.R_reads' hRA).2.2 (fun _ _ => trivial) (Below.refl _ _) (Nat.le_refl _) (by rw [len_a]; decide) ?_; intro vP wP hRP hbP_ hgP hatP; obtain ⟨AP, cP, eP⟩ := Kd.R_slice hRP; rw [List.length_append] at eP; subst eP; have hbP := below_step hbA hbP_) | (go_at_call 27; refine (framed_calls ⟨#[97]⟩ [97] bytes_a BI_a (by decide) _).mono ?_; rintro e wA ⟨vA, rfl, hRA, hbA_⟩; obtain ⟨AA, cA, rfl⟩ := Kd.R_slice hRA; have hbA := below_step hbX hbA_; have hCX' := Kd.C_below hCX hbA_) | ((with_reducible refine gate_dst (N := 22) rfl ?_); (try (refine gate_guard (by rfl) ?_; dsimp only)); refine Kd.R_lit_keep (Kd.int .u8) (w0 := _) (N := 22) _ 5 rfl rfl (xs := [120, 121, 122]) (inner := [.int .u8 120, .int .u8 121, .int .u8 122]) (ok := fun _ => True) (okp := fun _ => False) (by first | (go_simp; done) | (go_simp; rfl)) (Reps.one (show (Kd.int .u8).M _ _ _ 120 [.int .u8 120] from rfl) (Reps.one (show (Kd.int .u8).M _ _ _ 121 [.int .u8 121] from rfl) (Reps.one (show (Kd.int .u8).M _ _ _ 122 [.int .u8 122] from rfl) (Reps.none _ _)))) (fun _ h => h.elim) trivial (Below.refl _ _) (Nat.le_refl _) (by simp) ?_; intro vX wX_ hoX hbX_ hgX hnX hkX; obtain ⟨AX, eX⟩ := hkX; obtain ⟨gX, capX, eX', _⟩ := Kd.R_form hoX (by decide); rw [eX] at eX'; have hAX : AX = some ⟨gX, 0, none⟩ := (by injection eX'); clear eX'; subst hAX; subst eX; obtain ⟨wX, hcvX, hLX, hbbX, hggX⟩ := Kd.L_conv' (P := Try.prog) (t := 22) Try.underlying22 Try.underlying5 hoX (by decide) hbX_ (Nat.le_refl _); have hcvX' : (convert 22 22 (.slice (some ⟨gX, 0, none⟩) 3 3)).run Try.prog wX_ = .ok (.slice (some ⟨gX, 0, none⟩) 3 3) wX := hcvX; clear hcvX; obtain ⟨AX', cX', heX, hlX, hCX, _⟩ := hLX; have hAX' : (some ⟨gX, 0, none⟩ : Option Addr) = AX' := (by injection heX); subst hAX'; clear heX hlX; have hbX := hbbX))
  go_upto_region 5 with (first | (go_at_call 27; refine (framed_calls ⟨#[97]⟩ [97] bytes_a BI_a (by decide) _).mono ?_; rintro e wF ⟨vF, rfl, hRF, hbF⟩; obtain ⟨AF, cF, eF⟩ := Kd.R_slice hRF; rw [len_a] at eF; subst eF; have sF := (sN.below hbF).add (tB w.heap.size (.slice AF 14 cF) (frameL [97])) (show (Kd.int .u8).R 5 wF w.heap.size (fun k => _ ∧ _) _ _ from Kd.R_lower (Kd.R_mono (Kd.R_bound hRF) (fun k hk => ⟨hk.2.1, hk.2.2.1⟩)) hBN.size); have hBF := below_step hBN hbF))
  obtain ⟨hcut8, hCto⟩ := CBn_to AF cF (frameL [97]) 14 8 len_a (by decide) (RC hRF).2.2
  obtain ⟨A8, c8, hcutD, hC8, hc8⟩ := CBn_from AF cF (frameL [97]) 14 8 len_a (by decide) (RC hRF).2.2
  have hcut8' : ∀ W, (Instr.slice 22 (.slice AF 14 cF) none (some (.int .i64 8)) none).run Try.prog W = .ok (.slice AF 8 cF) W := hcut8
  have hcutD' : ∀ W, (Instr.slice 22 (.slice AF 14 cF) (some (.int .i64 8)) none none).run Try.prog W = .ok (.slice A8 6 c8) W := hcutD
  have hw8 : (((frameL [97]).take 8).length : Int) = 8 := by rw [List.length_take, len_a]; rfl
  go_wp2_with (first | (have g_ := hRT; clear g_; go_at_call 31; obtain ⟨Sx, hx, _⟩ := sT.get 3 _ rfl; have hx' : (Kd.int .u8).R 5 wT w.heap.size Sx (.slice AF 14 cF) (frameL [97]) := hx; refine (Sep.hears (w := w) sT 2 gc ((frameL [97]).take 8) false rfl (below_step hBG hbT) (BI_take (frameL_BI BI_a) 8) ((frameL [97]).drop 8) (BI_drop (frameL_BI BI_a) 8) (by simp [List.length_append, frameL_length]) _ _ _ (by rw [List.length_drop, len_a]) (hC8 wT (RC hx').2.1) hc8 [(⟨#[97]⟩ : ByteArray)] _ _ _ rfl (F_lit hRT hzT) (Kd.R_reads' hRT).2.1 ([⟨[97], true, 0⟩], [], false) all6 rfl (hits1 _ _ hit_a)).mono ?_; rintro e wV ⟨rfl, sV, hBV⟩) | ((with_reducible refine gate_dst (N := 68) rfl ?_); (try (refine gate_guard (by rfl) ?_; dsimp only)); refine Kd.R_lit Kd.string (w0 := _) (N := 68) _ 9 rfl rfl (xs := [(⟨#[97]⟩ : ByteArray)]) (inner := [.string ⟨#[97]⟩]) (ok := fun _ => True) (okp := fun _ => False) (by first | (go_simp; done) | (go_simp; rfl)) (Reps.one (show Kd.string.M _ _ _ (⟨#[97]⟩ : ByteArray) [.string ⟨#[97]⟩] from rfl) (Reps.none _ _)) (fun _ h => h.elim) trivial (Below.refl _ _) (Nat.le_refl _) (by simp) ?_; intro vT wT hRT hbT_ hgT hnT; obtain ⟨AT, cT, eT⟩ := Kd.R_slice hRT; rw [show ([(⟨#[97]⟩ : ByteArray)] : List ByteArray).length = 1 from rfl] at eT; subst eT; have hzT := (Below.refl wG.heap.size wG).size; have hbT := below_step (Below.refl wG.heap.size wG) hbT_; have sT := sG.below hbT) | (have g_ := sG; clear g_; go_at_call 22; obtain ⟨Sx, hx, _⟩ := sG.get 2 _ rfl; refine (Waits_rf gc _ _ _ _ _ hx).mono ?_; rintro e wG ⟨rfl, rfl⟩; clear hx) | (go_at_call 31; obtain ⟨Sx, hx, _⟩ := sF.get 3 _ rfl; have hx' : (Kd.int .u8).R 5 wF w.heap.size Sx (.slice AF 14 cF) (frameL [97]) := hx; refine (Sep.hears (w := w) sF 2 gc [] false rfl hBF BI_nil ((frameL [97]).take 8) (BI_take (frameL_BI BI_a) 8) (by simp [List.length_append, frameL_length]) _ 8 _ (by rw [List.length_take, len_a]; rfl) (hCto wF (RC hx').2.1) (by have := (RC hx').2.2; omega) [] _ _ _ rfl (F_nil _ _) (Nat.le_refl _) ([], (frameL [97]).take 8, false) all5 rfl (hits_nil _ _ rfl)).mono ?_; rintro e wG ⟨rfl, sG, hBG⟩; clear hx hx'))
  go_ret
  exact ⟨rfl, hBV⟩
end Go.Proofs.Ytkndghbognhocaa.X
namespace Go.Proofs.Ytkndghbognhocaa.Pure
set_option linter.unusedVariables false
set_option linter.unusedSimpArgs false
open Go.RowKit Go.Proofs.Ytkndghbognhocaa.X Go.Proofs.YtkndghbognhocaaW.PrintWords Go.Proofs.YtkndghbognhocaaW.PrintLast Go.Proofs.YtkndghbognhocaaW.PrintMore
theorem rhead_ev (n : Nat) (h : n ≤ 300000) : Ev (fun k => incunableref28_head.f k (n : Int)) (headL n) := by
  unfold incunableref28_head.f
  refine Ev.bind (f := fun k t => _) (Ev.now (head5 n)) ?_
  refine Ev.bind (f := fun k t => _) (rsum_ev (head5 n) (head5_BI n) (by simp [head5])) ?_
  exact ev_pos (by simp [head5, crc4]) (Ev.now _)
theorem rframe_ev (l : List Int) (hB : BI l) (hn : l.length ≤ 140737488351232) : Ev (fun k => incunableref28_Frame.f k l) (frameI l) := by
  unfold incunableref28_Frame.f frameI
  by_cases h : 300000 < l.length
  · rw [if_pos h]
    exact ev_pos (by omega) (Ev.now _)
  · rw [if_neg h]
    refine ev_neg (by omega) ?_
    refine Ev.bind (f := fun k t => _) (rhead_ev l.length (by omega)) ?_
    refine ev_pos (by rw [headL_length]; omega) ?_
    refine Ev.bind (f := fun k t => _) (Ev.now (headL l.length ++ l)) ?_
    refine Ev.bind (f := fun k t => _) (rsum_ev (headL l.length ++ l) (BI_append (headL_BI _) hB) (by rw [List.length_append, headL_length]; omega)) ?_
    exact ev_pos (by rw [List.length_append, headL_length, crc4_length]; omega) (Ev.now _)
theorem frameI_BI {l : List Int} (h : BI l) : BI (frameI l).1 := by
  unfold frameI
  split
  · exact BI_nil
  · exact frameL_BI h
theorem frameI_le (l : List Int) : (frameI l).1.length ≤ 300013 := by
  unfold frameI
  split
  · simp
  · rw [frameL_length]; omega
/-- bytes, as a law's argument brings them -/
def okB (l : List Int) : Bool := decide (l.length ≤ 140737488351232) && l.all (fun x => decide (0 ≤ x) && decide (x < 256))
theorem okB_len {l : List Int} (h : okB l = true) : l.length ≤ 140737488351232 := by
  unfold okB at h
  rw [Bool.and_eq_true, decide_eq_true_eq] at h
  exact h.1
theorem okB_BI {l : List Int} (h : okB l = true) : BI l := by
  unfold okB at h
  rw [Bool.and_eq_true] at h
  exact BI_of l h.2
theorem okB_of {l : List Int} (h1 : l.length * 1 ≤ 140737488351232) (h2 : ∀ x ∈ l, (Lit.int .u8 x).wf = true) : okB l = true := by
  unfold okB
  rw [Bool.and_eq_true, decide_eq_true_eq, List.all_eq_true]
  refine ⟨by omega, fun x hx => ?_⟩
  have := wf_u8 (h2 x hx)
  rw [Bool.and_eq_true, decide_eq_true_eq, decide_eq_true_eq]
  exact this
end Go.Proofs.Ytkndghbognhocaa.Pure
namespace Go.Proofs.Ytkndghbognhocaa.X
open Go.RowKit Go.Proofs.YtkndghbognhocaaW.PrintWords Go.Proofs.YtkndghbognhocaaW.PrintLast Go.Proofs.YtkndghbognhocaaW.PrintMore Go.Proofs.Ytkndghbognhocaa.Pure
set_option linter.unusedVariables false
theorem copy_n (L : List Int) (A : Option Addr) (n c : Nat) (w : World) (hn : L.length = n) (hm : n ≤ 140737488351232) (hC : CB w A n L) (hc : n ≤ c) :
    Calls Try.prog 10 #[.slice A n c] w fun e w' => ∃ v, e = .returned v ∧ (Kd.int .u8).R 5 w' w.heap.size (fun _ => True) v L ∧ Below w.heap.size w w' := by
  subst hn
  exact incunableref00_CopyBytes.calls A c L L w hC hc (copy_some L (by omega))
theorem eq_n (L M : List Int) (A B : Option Addr) (n c j d : Nat) (w : World) (hn : L.length = n) (hm : n ≤ 140737488351232) (hC : CB w A n L) (hc : n ≤ c) (hj : M.length = j) (hD : CB w B j M) (hd : j ≤ d) :
    Calls Try.prog 13 #[.slice A n c, .slice B j d] w fun e w' => e = .returned (.bool (decide (L = M))) ∧ Below w.heap.size w w' := by
  subst hn
  subst hj
  obtain ⟨k, hk⟩ := (eq_ev L M (by omega)).rounds
  refine (incunableref00_EqBytes.calls k A c L B d M _ w hC hc hD hd hk).mono ?_
  rintro e w' ⟨rfl, h⟩
  exact ⟨rfl, h.below⟩
theorem Frame_n (L : List Int) (hB : BI L) (A : Option Addr) (n c : Nat) (w : World) (hn : L.length = n) (hm : n ≤ 140737488351232) (hC : CB w A n L) (hc : n ≤ c) :
    Calls Try.prog 11 #[.slice A n c] w fun e w' => ∃ v, e = .returned (.tuple #[v, .int .i64 (frameI L).2]) ∧ (Kd.int .u8).R 5 w' w.heap.size (fun _ => True) v (frameI L).1 ∧ Below w.heap.size w w' := by
  subst hn
  unfold frameI
  by_cases h : 300000 < L.length
  · rw [if_pos h]
    refine (Frame_big L A c w hm h).mono ?_
    rintro e w' ⟨rfl, hb⟩
    exact ⟨_, rfl, Kd.R_nil _ _ _ _ _, hb⟩
  · rw [if_neg h]
    exact Frame_ok L hB A c w hC hc (by omega)
theorem rFrame_n (L : List Int) (hB : BI L) (A : Option Addr) (n c : Nat) (w : World) (hn : L.length = n) (hm : n ≤ 140737488351232) (hC : CB w A n L) (hc : n ≤ c) :
    Calls Try.prog 12 #[.slice A n c] w fun e w' => ∃ v, e = .returned (.tuple #[v, .int .i64 (frameI L).2]) ∧ (Kd.int .u8).R 5 w' w.heap.size (fun _ => True) v (frameI L).1 ∧ Below w.heap.size w w' := by
  subst hn
  obtain ⟨k, hk⟩ := (rframe_ev L hB hm).rounds
  exact incunableref28_Frame.calls k A c L _ _ w hC hc hk
end Go.Proofs.Ytkndghbognhocaa.X
