/- What the document's sum, the comparison of bytes and the statements' own helpers come to. -/
import Derived.Test.YtimpejljlnnlaaaXx2
import Derived.Test.YtimpejljlnnlaaaXx4
import Derived.Test.YtimpejljlnnlaaaXx5
import Derived.Test.YtimpejljlnnlaaaXx6
import Derived.Test.YtimpejljlnnlaaaXx1
import Derived.Test.YtimpejljlnnlaaaXCrcFns
namespace Go.Proofs.Ytimpejljlnnlaaa.Pure
set_option linter.unusedVariables false
set_option linter.unusedSimpArgs false
open Go.RowKit Go.Proofs.Ytimpejljlnnlaaa.X Go.Proofs.YtimpejljlnnlaaaW.PrintWords Go.Proofs.YtimpejljlnnlaaaW.PrintLast

theorem take_loop (d : Nat) : ∀ (i x : Nat), i + d = 8 → x < 4294967296 → Ev (fun k => incunableref02_take.l0 k (x : Int) (i : Int)) ((Crc.tn d x : Nat) : Int) := by
  induction d with
  | zero =>
    intro i x hi hx
    refine Ev.step (f := fun _ => some (x : Int)) (fun k => ?_) (Ev.now _)
    simp only [incunableref02_take.l0]
    rw [if_neg (by omega)]
  | succ d ih =>
    intro i x hi hx
    obtain ⟨h1, h2⟩ := bit_step x hx
    refine Ev.step (f := fun k => incunableref02_take.l0 k ((Crc.t x : Nat) : Int) ((i + 1 : Nat) : Int)) (fun k => ?_) (ih (i + 1) (Crc.t x) (by omega) (Crc.t_lt x hx))
    simp only [incunableref02_take.l0]
    rw [if_pos (by omega), h2, w64 (by omega) (by omega), t_of]
    by_cases hb : x % 2 = 1
    · rw [if_pos (h1.2 hb), if_pos hb]; rfl
    · rw [if_neg (fun h => hb (h1.1 h)), if_neg hb, show (x : Int) / 2 = ((x / 2 : Nat) : Int) by omega]; rfl
theorem take_ev (s c : Nat) (hs : s < 4294967296) (hc : c < 256) : Ev (fun k => incunableref02_take.f k (s : Int) (c : Int)) ((Crc.tk s c : Nat) : Int) := by
  unfold incunableref02_take.f
  have hx : s ^^^ c < 4294967296 := Nat.xor_lt_two_pow (n := 32) (by omega) (by omega)
  rw [show ((c : Int) % 4294967296) = (c : Int) by omega, u32_xor_nat _ _ hs (by omega)]
  exact take_loop 8 0 _ (by omega) hx
theorem ron_loop (l : List Int) (hl : BI l) (hn : l.length ≤ 9223372036854775800) (d : Nat) : ∀ (i s : Nat), i + d = l.length → s < 4294967296 →
    Ev (fun k => incunableref02_On.l0 k (s : Int) l (i : Int)) ((4294967295 ^^^ Crc.run s ((nat l).drop i) : Nat) : Int) := by
  induction d with
  | zero =>
    intro i s hi hs
    refine Ev.step (f := fun _ => some ((4294967295 ^^^ Crc.run s ((nat l).drop i) : Nat) : Int)) (fun k => ?_) (Ev.now _)
    simp only [incunableref02_On.l0]
    rw [if_neg (by omega), u32_xor _ _ (by omega) (by omega) (by omega) (by omega), List.drop_eq_nil_of_le (by simp [nat]; omega)]
    simp [Crc.run]
  | succ d ih =>
    intro i s hi hs
    have hlt : i < l.length := by omega
    obtain ⟨h1, h2⟩ := rd_nat hl i hlt
    have hlt' : i < (nat l).length := by simpa [nat] using hlt
    generalize hc : (nat l)[i]'hlt' = c at h1 h2
    refine Ev.step (f := fun k => (incunableref02_take.f k (s : Int) (c : Int)).bind fun t => incunableref02_On.l0 k t l ((i + 1 : Nat) : Int)) (fun k => ?_) ?_
    · simp only [incunableref02_On.l0]
      rw [if_pos (by omega), if_pos (by omega), h1, w64 (by omega) (by omega)]; rfl
    · refine Ev.bind (f := fun k t => incunableref02_On.l0 k t l ((i + 1 : Nat) : Int)) (take_ev s c hs h2) ?_
      have := ih (i + 1) (Crc.tk s c) (by omega) (Crc.tk_lt s c hs h2)
      rw [List.drop_eq_getElem_cons hlt', hc]
      exact this
theorem ron_ev (a : Int) (l : List Int) (h0 : 0 ≤ a) (h1 : a < 4294967296) (hl : BI l) (hn : l.length ≤ 9223372036854775800) : Ev (fun k => incunableref02_On.f k a l) (onI a l) := by
  obtain ⟨s, rfl⟩ := Int.eq_ofNat_of_zero_le h0
  unfold incunableref02_On.f onI Crc.on
  have := ron_loop l hl hn l.length 0 (4294967295 ^^^ s) (by omega) (Crc.not_lt s (by omega))
  rw [u32_xor _ _ (by omega) (by omega) (by omega) (by omega)]
  simpa using this
theorem rof_ev (l : List Int) (hl : BI l) (hn : l.length ≤ 9223372036854775800) : Ev (fun k => incunableref02_Of.f k l) (onI 0 l) := by
  unfold incunableref02_Of.f
  exact Ev.bind (f := fun _ t => some t) (ron_ev 0 l (by omega) (by omega) hl hn) (Ev.now _)

/-! ### bytes compared and copied -/
theorem rd_at (l : List Int) (i : Nat) (hi : i < l.length) : rd l (i : Int) = l[i] := by
  simp only [rd, Int.toNat_natCast, List.getD_eq_getElem?_getD, List.getElem?_eq_getElem hi, Option.getD_some]
theorem eq_loop (a b : List Int) (hab : a.length = b.length) (hn : a.length ≤ 9223372036854775800) (d : Nat) : ∀ (i : Nat), i + d = a.length →
    Ev (fun k => incunableref00_EqBytes.l0 k a b (i : Int)) (decide (a.drop i = b.drop i)) := by
  induction d with
  | zero =>
    intro i hi
    refine Ev.step (f := fun _ => some (decide (a.drop i = b.drop i))) (fun k => ?_) (Ev.now _)
    simp only [incunableref00_EqBytes.l0]
    rw [if_neg (by omega), List.drop_eq_nil_of_le (by omega), List.drop_eq_nil_of_le (by omega)]
    simp
  | succ d ih =>
    intro i hi
    have ha : i < a.length := by omega
    have hb : i < b.length := by omega
    have e : ∀ k, incunableref00_EqBytes.l0 (k + 1) a b (i : Int) = if a[i] = b[i] then incunableref00_EqBytes.l0 k a b ((i + 1 : Nat) : Int) else some false := fun k => by
      simp only [incunableref00_EqBytes.l0]
      rw [if_pos (by omega), if_pos (by omega), if_pos (by omega), rd_at a i ha, rd_at b i hb, w64 (by omega) (by omega)]; rfl
    refine Ev.step e ?_
    rw [List.drop_eq_getElem_cons ha, List.drop_eq_getElem_cons hb]
    by_cases h : a[i] = b[i]
    · simp only [if_pos h, List.cons.injEq, h, true_and]
      exact ih (i + 1) (by omega)
    · simp only [if_neg h, List.cons.injEq, h, false_and]
      exact Ev.now _
theorem eq_ev (a b : List Int) (hn : a.length ≤ 9223372036854775800) : Ev (fun k => incunableref00_EqBytes.f k a b) (decide (a = b)) := by
  unfold incunableref00_EqBytes.f
  by_cases h : a.length = b.length
  · simp only [if_pos (show (a.length : Int) = (b.length : Int) by omega)]
    have := eq_loop a b h hn a.length 0 (by omega)
    simpa using this
  · simp only [if_neg (show ¬ (a.length : Int) = (b.length : Int) by omega)]
    rw [show decide (a = b) = false from decide_eq_false (fun e => h (by rw [e]))]
    exact Ev.now _
theorem copy_some (l : List Int) (h : l.length < 140737488355328) : incunableref00_CopyBytes.f l = some l := by
  unfold incunableref00_CopyBytes.f
  rw [if_pos (by simpa using h)]; simp

/-! ### the chapter's examples -/
theorem BI_of (l : List Int) (h : l.all (fun x => decide (0 ≤ x) && decide (x < 256)) = true) : BI l := by
  intro x hx
  have := List.all_eq_true.1 h x hx
  simpa using this
theorem works_ev : Ev (fun k => incunablelaw02_works.f k) true := by
  unfold incunablelaw02_works.f
  simp only [Option.bind_some]
  refine Ev.bind (f := fun k t113 => _) (of_ev _ (BI_of _ (by decide)) (by decide)) ?_
  refine ev_pos (by decide +kernel) (ev_pos (by decide) ?_)
  refine Ev.bind (f := fun k t118 => _) (of_ev _ (BI_of _ (by decide)) (by decide)) ?_
  refine Ev.bind (f := fun k t123 => _) (on_ev _ _ (by decide +kernel) (by decide +kernel) (BI_of _ (by decide)) (by decide)) ?_
  refine ev_pos (by decide +kernel) (ev_pos (by decide) ?_)
  refine Ev.bind (f := fun k t128 => _) (of_ev _ (BI_of _ (by decide)) (by decide)) ?_
  refine ev_pos (by decide +kernel) ?_
  refine Ev.bind (f := fun _ t132 => some (t132 == 3904355907)) (of_ev _ (BI_of _ (by decide)) (by decide)) ?_
  rw [show (onI 0 [97] == 3904355907) = true by decide +kernel]
  exact Ev.now _
end Go.Proofs.Ytimpejljlnnlaaa.Pure
