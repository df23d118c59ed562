/- For FrameKnown: readers that are none, heads, rows that are read. -/
import Derived.Test.YtkndghbognhocaaXFrReads
import Derived.Test.YtkndghbognhocaaXFrTurned
import Derived.Test.YtkndghbognhocaaXx0
import Derived.Test.YtkndghbognhocaaXx10
namespace Go.Proofs.Ytkndghbognhocaa.X
open Go.RowKit Go.Proofs.YtkndghbognhocaaW.PrintWords Go.Proofs.YtkndghbognhocaaW.PrintLast Go.Proofs.YtkndghbognhocaaW.PrintMore Go.Proofs.Ytkndghbognhocaa.Pure
attribute [local go_sem] max2_int min2_int max_two min_two max_three min_three max_four min_four
set_option linter.unusedVariables false
set_option linter.unusedSimpArgs false
/-- it is none: the method says so -/
abbrev Isnt (p : Option Addr) (w : World) : Prop := Calls Try.prog 32 #[.pointer p] w fun e w' => e = .returned (.bool true) ∧ w' = w
set_option maxHeartbeats 8000000 in
theorem Next_none (p : Option Addr) (w : World) (h : Isnt p w) : Calls Try.prog 20 #[.pointer p] w fun e w' => e = .returned (.tuple #[.slice none 0 0, .bool false, .int .i64 1]) ∧ w' = w := by
  go_enter Try.func20, Try.ntmps20
  go_wp2_with (first | (go_at_call 32; refine h.mono ?_; rintro e w ⟨rfl, rfl⟩))
  go_ret3
  exact ⟨rfl, rfl⟩
set_option maxHeartbeats 8000000 in
theorem Feed_none (p : Option Addr) (A : Option Addr) (n c : Nat) (w : World) (h : Isnt p w) : Calls Try.prog 17 #[.pointer p, .slice A n c] w fun e w' => e = .returned (.int .i64 1) ∧ w' = w := by
  go_enter Try.func17, Try.ntmps17
  go_wp2_with (first | (go_at_call 32; refine h.mono ?_; rintro e w ⟨rfl, rfl⟩))
  go_ret
  exact ⟨rfl, rfl⟩
set_option maxHeartbeats 8000000 in
theorem Waits_none (p : Option Addr) (w : World) (h : Isnt p w) : Calls Try.prog 22 #[.pointer p] w fun e w' => e = .returned (.int .i64 0) ∧ w' = w := by
  go_enter Try.func22, Try.ntmps22
  go_wp2_with (first | (go_at_call 32; refine h.mono ?_; rintro e w ⟨rfl, rfl⟩))
  go_ret
  exact ⟨rfl, rfl⟩
/-- a row that is read: its value, and bytes that may be -/
def GoodRow (W : World) (v : Value) (L : List Int) : Prop := ∃ A c, v = .slice A L.length c ∧ L.length ≤ c ∧ CB W A L.length L
theorem GoodRow.below {W W' : World} {v : Value} {L : List Int} (h : GoodRow W v L) (hB : Below W.heap.size W W') : GoodRow W' v L := by
  obtain ⟨A, c, e, hc, hC⟩ := h
  exact ⟨A, c, e, hc, Kd.C_below hC hB⟩
theorem GoodRow.of {W : World} {b : Nat} {ok : Nat → Prop} {v : Value} {L : List Int} (h : (Kd.int .u8).R 5 W b ok v L) : GoodRow W v L := by
  obtain ⟨A, c, rfl, hl, hr⟩ := Kd.R_reads h
  exact ⟨A, c, rfl, hl, hr⟩
theorem GoodRow.fk {W : World} {v : Value} {L : List Int} (h : GoodRow W v L) : Kd.FK (Kd.slice 5 (Kd.int .u8)) W (fun k => k < W.heap.size) L [v] := by
  obtain ⟨A, c, rfl, hl, hC⟩ := h
  exact Kd.FK_slice_mk hl (Kd.C_F (Kd.heap_int .u8) hC)
theorem okB_small {L : List Int} (hB : BI L) (h : L.length ≤ 140737488351232) : okB L = true := by
  unfold okB
  rw [Bool.and_eq_true, decide_eq_true_eq, List.all_eq_true]
  refine ⟨h, fun x hx => ?_⟩
  rw [Bool.and_eq_true, decide_eq_true_eq, decide_eq_true_eq]
  exact hB x hx
theorem headed_n (n : Int) (w : World) : Calls Try.prog 26 #[.int .i64 n] w fun e w' => ∃ v L, e = .returned v ∧ GoodRow w' v L ∧ Below w.heap.size w w' ∧ okB L = true := by
  have hB5 : BI [73, 81, (n / 65536) % 256, (n / 256) % 256, n % 256] := by
    intro x hx
    simp only [List.mem_cons, List.not_mem_nil, or_false] at hx
    rcases hx with h | h | h | h | h <;> subst h <;> omega
  obtain ⟨k, hk⟩ := (of_ev _ hB5 (by simp)).rounds
  have hL : incunablelaw28_headed.f k n = some ([73, 81, (n / 65536) % 256, (n / 256) % 256, n % 256] ++ [(onI 0 [73, 81, (n / 65536) % 256, (n / 256) % 256, n % 256]) % 256, (onI 0 [73, 81, (n / 65536) % 256, (n / 256) % 256, n % 256] / 256) % 256, (onI 0 [73, 81, (n / 65536) % 256, (n / 256) % 256, n % 256] / 65536) % 256, (onI 0 [73, 81, (n / 65536) % 256, (n / 256) % 256, n % 256] / 16777216) % 256]) := by
    unfold incunablelaw28_headed.f
    simp only [Option.bind_some, hk]
    rw [if_pos (by simp)]
  refine (incunablelaw28_headed.calls k n _ w hL).mono ?_
  rintro e w' ⟨v, rfl, hR, hb⟩
  refine ⟨v, _, rfl, GoodRow.of hR, hb, okB_small (BI_append hB5 ?_) (by simp)⟩
  intro x hx
  simp only [List.mem_cons, List.not_mem_nil, or_false] at hx
  rcases hx with h | h | h | h <;> subst h <;> omega
theorem Frame_bign (l : List Int) (A : Option Addr) (n c : Nat) (w : World) (hn : l.length = n) (hm : n ≤ 140737488351232) (h : 300000 < n) :
    Calls Try.prog 11 #[.slice A n c] w fun e w' => e = .returned (.tuple #[.slice none 0 0, .int .i64 5]) ∧ Below w.heap.size w w' := by
  subst hn
  exact Frame_big l A c w hm h
theorem reads_n (l0 : List (List Int)) (l1 : List Int) (A B : Option Addr) (n c m d : Nat) (w : World) (hn : l0.length = n) (hm : l1.length = m) (hC : Kd.C (Kd.slice 5 (Kd.int .u8)) w A n l0) (hc : n ≤ c) (hD : Kd.C (Kd.int .i64) w B m l1) (hd : m ≤ d)
    (ho : okRows l0 = true) (hz : okZ l1 = true) (h1 : n ≤ 100) (h2 : m ≤ 100) :
    Calls Try.prog 4 #[.slice A n c, .slice B m d] w fun e w' => e = .returned (.bool true) ∧ Below w.heap.size w w' := by
  subst hn
  subst hm
  exact incunablelaw28_FrameReads.calls 0 A c l0 B d l1 true w hC hc hD hd (by unfold incunablelaw28_FrameReads.f; rw [if_pos ⟨ho, hz, by omega, by omega⟩])
theorem turned_n (l0 : List Int) (A : Option Addr) (n c : Nat) (a b : Int) (w : World) (hn : l0.length = n) (hC : CB w A n l0) (hc : n ≤ c) (ho : okB l0 = true) (ha : 0 ≤ a ∧ a < 1000) (hb : 0 ≤ b ∧ b < 4294967296) :
    Calls Try.prog 7 #[.slice A n c, .int .i64 a, .int .u32 b] w fun e w' => e = .returned (.bool true) ∧ Below w.heap.size w w' := by
  subst hn
  exact incunablelaw28_FrameTurned.calls 0 A c l0 a b true w hC hc (by unfold incunablelaw28_FrameTurned.f; rw [if_pos ⟨ho, ⟨by omega, by omega⟩, hb⟩])
theorem three_frames (x : List Int) (h : x.length ≤ 300000) : allI 1000 ([] ++ frameL x ++ frameL x ++ frameL x) false = ([⟨x, true, 0⟩, ⟨x, true, 0⟩, ⟨x, true, 0⟩], [], false) := by
  rw [List.nil_append, List.append_assoc, all_frame 999 x (frameL x ++ frameL x) false h, all_frame 998 x (frameL x) false h]
  have h1 := all_frame 997 x [] false h
  rw [List.append_nil, all_nil] at h1
  rw [h1]
theorem okRows_cons {x : List Int} {l : List (List Int)} (h : okB x = true) (h2 : okRows l = true) : okRows (x :: l) = true := by
  unfold okRows at *
  rw [List.all_cons, h, h2]
  rfl
theorem okRows_nil : okRows [] = true := rfl
theorem C_nilZ (w : World) : Kd.C (Kd.int .i64) w none 0 [] := (Kd.R_reads' (Kd.R_nil (Kd.int .i64) 3 w 0 (fun _ => True))).2.2
theorem flip_one (G : List Int) (hB : BI G) (hl : G.length = 18) (i : Int) (h0 : 0 ≤ i) (h1 : i < 144) : ∃ (J K sz : Int) (G' : List Int), Int.tdiv i 8 = J ∧ Int.tmod i 8 = K ∧ 0 ≤ J ∧ J < 18 ∧ 0 ≤ K ∧ K ≤ 8 ∧ shl .u8 1 K = sz ∧ G.set J.toNat (Go.bits .xor .u8 (rd G J) sz) = G' ∧ okB G' = true ∧ G'.length = 18 := by
  obtain ⟨p, rfl⟩ := Int.eq_ofNat_of_zero_le h0
  have hs := turn_set G hB 1 p 0 (by rw [hl]; omega) rfl
  rw [Nat.pow_zero, Nat.mod_one, turnL_zero hB, Nat.add_zero] at hs
  refine ⟨((p / 8 : Nat) : Int), ((p % 8 : Nat) : Int), ((2 ^ (p % 8) : Nat) : Int), turnL G p (1 % 2 ^ (0 + 1)), ?_, ?_, by omega, by omega, by omega, by omega, shl_u8 _ (by omega), ?_, okB_small (turnL_BI hB _ _) (by rw [turnL_length, hl]; decide), by rw [turnL_length, hl]⟩
  · rw [Int.tdiv_eq_ediv_of_nonneg (by omega)]; omega
  · rw [Int.tmod_eq_emod_of_nonneg (by omega)]; omega
  · rw [Int.toNat_natCast]; exact hs
end Go.Proofs.Ytkndghbognhocaa.X
