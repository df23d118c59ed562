/- What the statements' helpers come to: ahead, four, behind, Bring. -/
import Derived.Test.YtimpejljlnnlaaaXx10
import Derived.Test.YtimpejljlnnlaaaXx12
import Derived.Test.YtimpejljlnnlaaaXx8
import Derived.Test.YtimpejljlnnlaaaXCrcRef
namespace Go.Proofs.Ytimpejljlnnlaaa.Pure
set_option linter.unusedVariables false
set_option linter.unusedSimpArgs false
open Go.RowKit Go.Proofs.Ytimpejljlnnlaaa.X Go.Proofs.YtimpejljlnnlaaaW.PrintWords Go.Proofs.YtimpejljlnnlaaaW.PrintLast Go.Proofs.YtimpejljlnnlaaaW.PrintMore

theorem u_step (x : Nat) (hx : x < 4294967296) :
    (if (x : Int) ≥ 2147483648 then (((Go.bits .xor .u32 (x : Int) 3988292384) * 2) % 4294967296) + 1 else ((x : Int) * 2) % 4294967296) = ((Crc.u x : Nat) : Int) := by
  unfold Crc.u
  by_cases h : 2147483648 ≤ x
  · rw [if_pos (by omega), if_pos h, show Go.bits .xor .u32 (x : Int) 3988292384 = ((x ^^^ 3988292384 : Nat) : Int) from u32_xor_nat x 3988292384 hx (by omega)]
    omega
  · rw [if_neg (by omega), if_neg h]
    omega
theorem ahead_inner (l : List Int) (hl : BI l) (hn : l.length ≤ 9223372036854775800) (i : Nat) (hi : i < l.length) (r : Int) (d : Nat) : ∀ (j x : Nat), j + d = 8 → x < 4294967296 →
    Ev (fun k => incunablelaw02_ahead.l0 k l ((Crc.un d x ^^^ (nat l)[i]'(by simpa [nat] using hi) : Nat) : Int) ((i : Int) - 1)) r → Ev (fun k => incunablelaw02_ahead.l1 k l (x : Int) (i : Int) (j : Int)) r := by
  obtain ⟨h1, h2⟩ := rd_nat hl i hi
  have hlt' : i < (nat l).length := by simpa [nat] using hi
  generalize hc : (nat l)[i]'hlt' = c at h1 h2
  induction d with
  | zero =>
    intro j x hj hx h
    refine Ev.step (f := fun k => incunablelaw02_ahead.l0 k l ((x ^^^ c : Nat) : Int) ((i : Int) - 1)) (fun k => ?_) h
    simp only [incunablelaw02_ahead.l1]
    rw [if_neg (by omega), if_pos (by omega), if_pos (by omega), h1, show ((c : Int) % 4294967296) = (c : Int) by omega, u32_xor_nat x c hx (by omega), w64 (by omega) (by omega)]
  | succ d ih =>
    intro j x hj hx h
    refine Ev.step (f := fun k => incunablelaw02_ahead.l1 k l ((Crc.u x : Nat) : Int) (i : Int) ((j + 1 : Nat) : Int)) (fun k => ?_) (ih (j + 1) (Crc.u x) (by omega) (Crc.u_lt x hx) h)
    rw [← u_step x hx]
    simp only [incunablelaw02_ahead.l1]
    rw [if_pos (by omega), w64 (by omega) (by omega)]
    split <;> rfl
theorem ahead_loop (l : List Int) (hl : BI l) (hn : l.length ≤ 9223372036854775800) (s : Nat) (hs : s < 4294967296) : ∀ (i : Nat), i ≤ l.length →
    Ev (fun k => incunablelaw02_ahead.l0 k l ((Crc.back s ((nat l).drop i) : Nat) : Int) ((i : Int) - 1)) ((4294967295 ^^^ Crc.back s (nat l) : Nat) : Int) := by
  intro i
  induction i with
  | zero =>
    intro _
    have hb := Crc.back_lt s (nat l) hs (nat_B hl)
    refine Ev.step (f := fun _ => some ((4294967295 ^^^ Crc.back s (nat l) : Nat) : Int)) (fun k => ?_) (Ev.now _)
    simp only [incunablelaw02_ahead.l0]
    rw [if_neg (by omega), List.drop_zero]
    exact congrArg some (u32_xor_nat 4294967295 _ (by omega) hb)
  | succ i ih =>
    intro hi
    have hlt' : i < (nat l).length := by simp [nat]; omega
    have hB : Crc.B ((nat l).drop (i + 1)) := fun c hc => nat_B hl c (List.mem_of_mem_drop hc)
    refine Ev.step (f := fun k => incunablelaw02_ahead.l1 k l ((Crc.back s ((nat l).drop (i + 1)) : Nat) : Int) (i : Int) ((0 : Nat) : Int)) (fun k => ?_) ?_
    · simp only [incunablelaw02_ahead.l0]
      rw [if_pos (by omega), show (((i + 1 : Nat) : Int) - 1) = (i : Int) by omega]; rfl
    · refine ahead_inner l hl hn i (by omega) _ 8 0 _ (by omega) (Crc.back_lt s _ hs hB) ?_
      have := ih (by omega)
      rw [List.drop_eq_getElem_cons hlt', Crc.back] at this
      exact this
def aheadI (a : Int) (l : List Int) : Int := ((Crc.ahead a.toNat (nat l) : Nat) : Int)
theorem ahead_ev (a : Int) (l : List Int) (h0 : 0 ≤ a) (h1 : a < 4294967296) (hl : BI l) (hn : l.length ≤ 9223372036854775800) : Ev (fun k => incunablelaw02_ahead.f k a l) (aheadI a l) := by
  obtain ⟨s, rfl⟩ := Int.eq_ofNat_of_zero_le h0
  unfold incunablelaw02_ahead.f aheadI Crc.ahead
  have := ahead_loop l hl hn (4294967295 ^^^ s) (Crc.not_lt s (by omega)) l.length (by omega)
  rw [show Go.bits .xor .u32 4294967295 (s : Int) = ((4294967295 ^^^ s : Nat) : Int) from u32_xor_nat 4294967295 s (by omega) (by omega), w64 (by omega) (by omega)]
  rw [List.drop_eq_nil_of_le (by simp [nat])] at this
  simpa [Crc.back] using this
theorem aheadI_range (a : Int) (l : List Int) (h0 : 0 ≤ a) (h1 : a < 4294967296) (hl : BI l) : 0 ≤ aheadI a l ∧ aheadI a l < 4294967296 := by
  have := Crc.not_lt _ (Crc.back_lt (4294967295 ^^^ a.toNat) (nat l) (Crc.not_lt a.toNat (by omega)) (nat_B hl))
  unfold aheadI Crc.ahead; omega
theorem aheadI_onI (a : Int) (l : List Int) (h0 : 0 ≤ a) (h1 : a < 4294967296) (hl : BI l) : aheadI (onI a l) l = a := by
  unfold aheadI onI
  rw [Int.toNat_natCast, Crc.ahead_on _ _ (by omega) (nat_B hl)]; omega
theorem onI_aheadI (a : Int) (l : List Int) (h0 : 0 ≤ a) (h1 : a < 4294967296) (hl : BI l) : onI (aheadI a l) l = a := by
  unfold aheadI onI
  rw [Int.toNat_natCast, Crc.on_ahead _ _ (by omega) (nat_B hl)]; omega
theorem onI_inj (a b : Int) (l : List Int) (h0 : 0 ≤ a) (h1 : a < 4294967296) (g0 : 0 ≤ b) (g1 : b < 4294967296) (hl : BI l) (h : onI a l = onI b l) : a = b := by
  rw [← aheadI_onI a l h0 h1 hl, h, aheadI_onI b l g0 g1 hl]

/-! ### four bytes -/
def fourI (a : Int) : List Int := [a % 256, (a / 256) % 256, (a / 65536) % 256, (a / 16777216) % 256]
theorem four_some (a : Int) : incunablelaw02_four.f a = some (fourI a) := rfl
theorem fourI_BI (a : Int) : BI (fourI a) := by
  intro x hx
  simp only [fourI, List.mem_cons, List.not_mem_nil, or_false] at hx
  omega
theorem nat_fourI (a : Int) (h0 : 0 ≤ a) : nat (fourI a) = Crc.four a.toNat := by
  obtain ⟨s, rfl⟩ := Int.eq_ofNat_of_zero_le h0
  simp only [nat, fourI, Crc.four, List.map_cons, List.map_nil, Int.toNat_natCast, List.cons.injEq, and_true]
  omega
theorem behind_some (a b : List Int) (h : a.length + b.length < 140737488355328) : incunablelaw02_behind.f a b = some (a ++ b) := by
  unfold incunablelaw02_behind.f
  rw [if_pos (by simp; omega)]
  simp only [List.nil_append, Option.bind_some]
  rw [if_pos h]
theorem mn_spec (a b : Int) : mn a b ≤ a ∧ mn a b ≤ b ∧ (mn a b = a ∨ mn a b = b) := by unfold mn; split <;> omega

/-! ### Bring -/
theorem bring_some (a n : Int) (h0 : -9223372036854775808 ≤ a) (h1 : a < 9223372036854775808) (hn : 0 < n) (hn1 : n < 9223372036854775808) : ∃ r, incunableref00_Bring.f a n = some r ∧ 0 ≤ r ∧ r < n := by
  unfold incunableref00_Bring.f
  rw [if_neg (by omega), if_neg (by omega)]
  have h2 : -n < Int.tmod a n ∧ Int.tmod a n < n := by
    have := Int.natAbs_tmod a n
    have h3 : Int.natAbs a % Int.natAbs n < Int.natAbs n := Nat.mod_lt _ (by omega)
    omega
  by_cases h : Int.tmod a n < 0
  · rw [if_pos h, w64 (by omega) (by omega)]
    exact ⟨_, rfl, by omega, by omega⟩
  · rw [if_neg h]
    exact ⟨_, rfl, by omega, by omega⟩
end Go.Proofs.Ytimpejljlnnlaaa.Pure
