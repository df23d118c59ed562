/- The sum: what the printed functions answer (for packs). -/
import Derived.Test.YtpmikaoheaefiaaXx6
import Derived.Test.YtpmikaoheaefiaaXx14
import Derived.Test.YtpmikaoheaefiaaXVarMath
import Derived.Test.YtpmikaoheaefiaaXCrcMath
namespace Go.Proofs.Ytpmikaoheaefiaa.Pure
set_option linter.unusedVariables false
set_option linter.unusedSimpArgs false
open Go.RowKit Go.Proofs.Ytpmikaoheaefiaa.X Go.Proofs.YtpmikaoheaefiaaW.PrintWords Go.Proofs.YtpmikaoheaefiaaW.PrintLast

def nat (l : List Int) : List Nat := l.map Int.toNat
theorem nat_B {l : List Int} (h : BI l) : Crc.B (nat l) := by
  intro c hc
  obtain ⟨x, hx, rfl⟩ := List.mem_map.1 hc
  have := h x hx
  omega
theorem nat_append (a b : List Int) : nat (a ++ b) = nat a ++ nat b := by simp [nat]
theorem rd_nat {l : List Int} (h : BI l) (i : Nat) (hi : i < l.length) : rd l (i : Int) = (((nat l)[i]'(by simpa [nat] using hi) : Nat) : Int) ∧ (nat l)[i]'(by simpa [nat] using hi) < 256 := by
  have hx := h l[i] (List.getElem_mem hi)
  simp only [rd, Int.toNat_natCast, List.getD_eq_getElem?_getD, List.getElem?_eq_getElem hi, Option.getD_some, nat, List.getElem_map]
  omega
theorem wf_u32 {x : Int} (h : (Lit.int .u32 x).wf = true) : 0 ≤ x ∧ x < 4294967296 := by
  simp only [Lit.wf, Bool.and_eq_true, decide_eq_true_eq] at h
  have h1 : IntKind.u32.min = 0 := rfl
  have h2 : IntKind.u32.max = 4294967295 := rfl
  omega
theorem bit_step (x : Nat) (hx : x < 4294967296) :
    (Go.bits .and .u32 (x : Int) 1 = 1 ↔ x % 2 = 1) ∧ Go.bits .xor .u32 ((x : Int) / 2) 3988292384 = ((x / 2 ^^^ 3988292384 : Nat) : Int) := by
  constructor
  · rw [u32_and (x : Int) 1 (by omega) (by omega) (by omega) (by omega)]
    simp only [Int.toNat_natCast, show (1 : Int).toNat = 1 from rfl, Nat.and_one_is_mod]
    omega
  · rw [show (x : Int) / 2 = ((x / 2 : Nat) : Int) by omega]
    exact u32_xor_nat (x / 2) 3988292384 (by omega) (by omega)
theorem t_of (x : Nat) : Crc.t x = if x % 2 = 1 then x / 2 ^^^ 3988292384 else x / 2 := by
  unfold Crc.t; split <;> simp
theorem roll_loop (d : Nat) : ∀ (i x : Nat), i + d = 8 → x < 4294967296 → Ev (fun k => crc_roll.l0 k (x : Int) (i : Int)) ((Crc.tn d x : Nat) : Int) := by
  induction d with
  | zero =>
    intro i x hi hx
    refine Ev.step (f := fun _ => some (x : Int)) (fun k => ?_) (Ev.now _)
    simp only [crc_roll.l0]
    rw [if_neg (by omega)]
  | succ d ih =>
    intro i x hi hx
    obtain ⟨h1, h2⟩ := bit_step x hx
    refine Ev.step (f := fun k => crc_roll.l0 k ((Crc.t x : Nat) : Int) ((i + 1 : Nat) : Int)) (fun k => ?_) (ih (i + 1) (Crc.t x) (by omega) (Crc.t_lt x hx))
    simp only [crc_roll.l0]
    rw [if_pos (by omega), h2, w64 (by omega) (by omega), t_of]
    by_cases hb : x % 2 = 1
    · rw [if_pos (h1.2 hb), if_pos hb]; rfl
    · rw [if_neg (fun h => hb (h1.1 h)), if_neg hb, show (x : Int) / 2 = ((x / 2 : Nat) : Int) by omega]; rfl
theorem roll_ev (c : Nat) (hc : c < 256) : Ev (fun k => crc_roll.f k (c : Int)) ((Crc.tn 8 c : Nat) : Int) := by
  unfold crc_roll.f
  rw [show ((c : Int) % 4294967296) = (c : Int) by omega]
  exact roll_loop 8 0 c (by omega) (by omega)
/-- Eight bits at once: the byte that falls out, and what is left. -/
theorem tk_parts (s c : Nat) (hc : c < 256) : Crc.tk s c = s / 256 ^^^ Crc.tn 8 ((s % 256) ^^^ c) := by
  unfold Crc.tk
  have h := Crc.xor_add (s % 256) (s / 256) (by omega)
  rw [show s % 256 + 256 * (s / 256) = s by omega] at h
  calc Crc.tn 8 (s ^^^ c) = Crc.tn 8 ((2 ^ 8 * (s / 256)) ^^^ ((s % 256) ^^^ c)) := by
        congr 1
        conv => lhs; rw [h]
        rw [Nat.xor_assoc]
    _ = _ := by rw [Crc.tn_xor, Crc.tn_shift]
theorem on_loop (l : List Int) (hl : BI l) (hn : l.length ≤ 9223372036854775800) (d : Nat) : ∀ (i s : Nat), i + d = l.length → s < 4294967296 →
    Ev (fun k => crc_On.l0 k (s : Int) l (i : Int)) ((4294967295 ^^^ Crc.run s ((nat l).drop i) : Nat) : Int) := by
  induction d with
  | zero =>
    intro i s hi hs
    refine Ev.step (f := fun _ => some ((4294967295 ^^^ Crc.run s ((nat l).drop i) : Nat) : Int)) (fun k => ?_) (Ev.now _)
    simp only [crc_On.l0]
    rw [if_neg (by omega), u32_xor _ _ (by omega) (by omega) (by omega) (by omega), List.drop_eq_nil_of_le (by simp [nat]; omega)]
    simp [Crc.run]
  | succ d ih =>
    intro i s hi hs
    have hlt : i < l.length := by omega
    obtain ⟨h1, h2⟩ := rd_nat hl i hlt
    have hlt' : i < (nat l).length := by simpa [nat] using hlt
    generalize hc : (nat l)[i]'hlt' = c at h1 h2
    have hx : Go.bits .xor .u8 ((s : Int) % 256) (c : Int) = ((s % 256 ^^^ c : Nat) : Int) := by
      rw [show (s : Int) % 256 = ((s % 256 : Nat) : Int) by omega]
      exact u8_xor_nat _ _ (by omega) (by omega)
    have hxl : s % 256 ^^^ c < 256 := Nat.xor_lt_two_pow (n := 8) (by omega) (by omega)
    have htn : Crc.tn 8 (s % 256 ^^^ c) < 4294967296 := Crc.tn_lt _ _ (by omega)
    have hy : Go.bits .xor .u32 ((s : Int) / 256) ((Crc.tn 8 (s % 256 ^^^ c) : Nat) : Int) = ((Crc.tk s c : Nat) : Int) := by
      rw [show (s : Int) / 256 = ((s / 256 : Nat) : Int) by omega, tk_parts s c h2]
      exact u32_xor_nat _ _ (by omega) (by omega)
    refine Ev.step (f := fun k => (crc_roll.f k ((s % 256 ^^^ c : Nat) : Int)).bind fun t => crc_On.l0 k (Go.bits .xor .u32 ((s : Int) / 256) t) l ((i + 1 : Nat) : Int)) (fun k => ?_) ?_
    · simp only [crc_On.l0]
      rw [if_pos (by omega), if_pos (by omega), h1, hx, w64 (by omega) (by omega)]; rfl
    · refine Ev.bind (f := fun k t => crc_On.l0 k (Go.bits .xor .u32 ((s : Int) / 256) t) l ((i + 1 : Nat) : Int)) (roll_ev _ hxl) ?_
      simp only [hy]
      have := ih (i + 1) (Crc.tk s c) (by omega) (Crc.tk_lt s c hs h2)
      rw [List.drop_eq_getElem_cons hlt', hc]
      exact this
/-- On's answer. -/
def onI (a : Int) (l : List Int) : Int := ((Crc.on a.toNat (nat l) : Nat) : Int)
theorem onI_range (a : Int) (l : List Int) (h0 : 0 ≤ a) (h1 : a < 4294967296) (hl : BI l) : 0 ≤ onI a l ∧ onI a l < 4294967296 := by
  have := Crc.on_lt a.toNat (nat l) (by omega) (nat_B hl)
  unfold onI; omega
theorem on_ev (a : Int) (l : List Int) (h0 : 0 ≤ a) (h1 : a < 4294967296) (hl : BI l) (hn : l.length ≤ 9223372036854775800) : Ev (fun k => crc_On.f k a l) (onI a l) := by
  obtain ⟨s, rfl⟩ := Int.eq_ofNat_of_zero_le h0
  unfold crc_On.f onI Crc.on
  have := on_loop l hl hn l.length 0 (4294967295 ^^^ s) (by omega) (Crc.not_lt s (by omega))
  rw [u32_xor _ _ (by omega) (by omega) (by omega) (by omega)]
  simpa using this
theorem of_ev (l : List Int) (hl : BI l) (hn : l.length ≤ 9223372036854775800) : Ev (fun k => crc_Of.f k l) (onI 0 l) := by
  unfold crc_Of.f
  exact Ev.bind (f := fun _ t => some t) (on_ev 0 l (by omega) (by omega) hl hn) (Ev.now _)
theorem onI_append (a : Int) (x y : List Int) (h0 : 0 ≤ a) (h1 : a < 4294967296) (hx : BI x) : onI (onI a x) y = onI a (x ++ y) := by
  unfold onI
  rw [nat_append, Crc.on_append, Int.toNat_natCast]
theorem rtk_loop (d : Nat) : ∀ (i x : Nat), i + d = 8 → x < 4294967296 → Ev (fun k => incunableref02_take.l0 k (x : Int) (i : Int)) ((Crc.tn d x : Nat) : Int) := by
  induction d with
  | zero =>
    intro i x hi hx
    refine Ev.step (f := fun _ => some (x : Int)) (fun k => ?_) (Ev.now _)
    simp only [incunableref02_take.l0]
    rw [if_neg (by omega)]
  | succ d ih =>
    intro i x hi hx
    obtain ⟨h1, h2⟩ := bit_step x hx
    refine Ev.step (f := fun k => incunableref02_take.l0 k ((Crc.t x : Nat) : Int) ((i + 1 : Nat) : Int)) (fun k => ?_) (ih (i + 1) (Crc.t x) (by omega) (Crc.t_lt x hx))
    simp only [incunableref02_take.l0]
    rw [if_pos (by omega), h2, w64 (by omega) (by omega), t_of]
    by_cases hb : x % 2 = 1
    · rw [if_pos (h1.2 hb), if_pos hb]; rfl
    · rw [if_neg (fun h => hb (h1.1 h)), if_neg hb, show (x : Int) / 2 = ((x / 2 : Nat) : Int) by omega]; rfl
theorem rtk_ev (s c : Nat) (hs : s < 4294967296) (hc : c < 256) : Ev (fun k => incunableref02_take.f k (s : Int) (c : Int)) ((Crc.tk s c : Nat) : Int) := by
  unfold incunableref02_take.f
  have hx : s ^^^ c < 4294967296 := Nat.xor_lt_two_pow (n := 32) (by omega) (by omega)
  rw [show ((c : Int) % 4294967296) = (c : Int) by omega, u32_xor_nat _ _ hs (by omega)]
  exact rtk_loop 8 0 _ (by omega) hx
theorem ron_loop (l : List Int) (hl : BI l) (hn : l.length ≤ 9223372036854775800) (d : Nat) : ∀ (i s : Nat), i + d = l.length → s < 4294967296 →
    Ev (fun k => incunableref02_On.l0 k (s : Int) l (i : Int)) ((4294967295 ^^^ Crc.run s ((nat l).drop i) : Nat) : Int) := by
  induction d with
  | zero =>
    intro i s hi hs
    refine Ev.step (f := fun _ => some ((4294967295 ^^^ Crc.run s ((nat l).drop i) : Nat) : Int)) (fun k => ?_) (Ev.now _)
    simp only [incunableref02_On.l0]
    rw [if_neg (by omega), u32_xor _ _ (by omega) (by omega) (by omega) (by omega), List.drop_eq_nil_of_le (by simp [nat]; omega)]
    simp [Crc.run]
  | succ d ih =>
    intro i s hi hs
    have hlt : i < l.length := by omega
    obtain ⟨h1, h2⟩ := rd_nat hl i hlt
    have hlt' : i < (nat l).length := by simpa [nat] using hlt
    generalize hc : (nat l)[i]'hlt' = c at h1 h2
    refine Ev.step (f := fun k => (incunableref02_take.f k (s : Int) (c : Int)).bind fun t => incunableref02_On.l0 k t l ((i + 1 : Nat) : Int)) (fun k => ?_) ?_
    · simp only [incunableref02_On.l0]
      rw [if_pos (by omega), if_pos (by omega), h1, w64 (by omega) (by omega)]; rfl
    · refine Ev.bind (f := fun k t => incunableref02_On.l0 k t l ((i + 1 : Nat) : Int)) (rtk_ev s c hs h2) ?_
      have := ih (i + 1) (Crc.tk s c) (by omega) (Crc.tk_lt s c hs h2)
      rw [List.drop_eq_getElem_cons hlt', hc]
      exact this
theorem ron_ev (a : Int) (l : List Int) (h0 : 0 ≤ a) (h1 : a < 4294967296) (hl : BI l) (hn : l.length ≤ 9223372036854775800) : Ev (fun k => incunableref02_On.f k a l) (onI a l) := by
  obtain ⟨s, rfl⟩ := Int.eq_ofNat_of_zero_le h0
  unfold incunableref02_On.f onI Crc.on
  have := ron_loop l hl hn l.length 0 (4294967295 ^^^ s) (by omega) (Crc.not_lt s (by omega))
  rw [u32_xor _ _ (by omega) (by omega) (by omega) (by omega)]
  simpa using this
theorem rof_ev (l : List Int) (hl : BI l) (hn : l.length ≤ 9223372036854775800) : Ev (fun k => incunableref02_Of.f k l) (onI 0 l) := by
  unfold incunableref02_Of.f
  exact Ev.bind (f := fun _ t => some t) (ron_ev 0 l (by omega) (by omega) hl hn) (Ev.now _)

/-! ### bytes compared and copied -/
end Go.Proofs.Ytpmikaoheaefiaa.Pure
