-- Laid by xprint.py, a program of this session over the kit's print; checked by Lean alone.
import Derived.Test.YtnonhhblfmceaaaXx0
namespace Go.Proofs.Ytnonhhblfmceaaa.X
open Go.RowKit Go.Proofs.YtnonhhblfmceaaaW.PrintWords Go.Proofs.YtnonhhblfmceaaaW.PrintLast Go.Proofs.YtnonhhblfmceaaaW.PrintMore
attribute [local go_sem] max2_int min2_int max_two min_two max_three min_three max_four min_four   -- for this text's walks alone
set_option linter.unusedVariables false
set_option linter.unusedSimpArgs false

/-! ### slices_Grow_byte_byte: function 35 -/
def slices_Grow_byte_byte.f (_l0 : List Int) (a1 : Int) : Option (List Int) := if 0 ≤ a1 ∧ a1 ≤ 140737488355328 then some [] else none
set_option maxHeartbeats 8000000 in
set_option maxRecDepth 100000 in
/-- Grow of a nil slice alone. -/
theorem slices_Grow_byte_byte.calls (_A0 _c0 : Unit) (l0 : List Int) (a1 : Int) (r : List Int) (w : World) (_hr0 : Kd.C (Kd.int .u8) w none ([] : List Int).length []) (_hc0 : ([] : List Int).length ≤ 0) (h : slices_Grow_byte_byte.f l0 a1 = some r) :
    Calls Try.prog 35 #[.slice none 0 0, .int .i64 a1] w fun e w' => ∃ v0_ : Value, e = .returned (v0_) ∧ Kd.R (Kd.int .u8) 5 w' w.heap.size (fun _ => True) v0_ r ∧ Below w.heap.size w w' := by
  have HB := Aside0.mk (Below.refl w.heap.size w)
  clear _hr0 _hc0
  have H : (if 0 ≤ a1 ∧ a1 ≤ 140737488355328 then some [] else none) = some r := h
  clear h
  by_cases c2 : 0 ≤ a1 ∧ a1 ≤ 140737488355328
  · rw [if_pos c2] at H
    obtain rfl := Option.some.inj H
    obtain ⟨b0, b1⟩ := c2
    clear H
    obtain ⟨i0, hi0, _, hsz0, _⟩ := info_parts info5
    have hcutA := cut_to (P := Try.prog) 22 5 .i64 Try.underlying22 hi0 none 0 0 0 (by omega) (by omega) (Nat.le_refl 0)
    rcases Int.lt_or_eq_of_le b0 with hp | hz
    · have LM := Aside0.mk b1
      have LZ := Aside0.mk b0
      have c3 : decide (a1 < 0) = false := decide_eq_false (by omega)
      have c4 : decide (0 < a1) = true := decide_eq_true hp
      have c5 : a1 - 0 = a1 := by omega
      go_enter Try.func35, Try.ntmps35
      go_wp2_with ((with_reducible refine gate_builtin (b := .append) (xs := #[.tmp 20, .tmp 21]) rfl ?_); at_builtin; refine Kd.R_append_zeros (Kd.int .u8) (w0 := w) w.heap.size rfl (.tmp 20) (.tmp 21) 22 3 5 (.int .u8 0) 1 rfl Try.underlying22 Try.underlying3 info5 rfl (by decide) (by omega) (.slice none 0 0) ([] : List Int) (0 : Int) a1 (fun _ => True) rfl rfl ?zz (fun _ _ => trivial) (Kd.R_nil _ _ _ _ _) LZ.out HB.out (Nat.le_refl _) ?zl ?_; (case zz => rfl); (case zl => have := LM.out; simp; omega); intro v1 w1 ho hb hg hat; clear hg hat; obtain ⟨A1, c1, hv1, hlc, _⟩ := Kd.R_reads ho; obtain ⟨m, hm⟩ : ∃ m, m = (([] : List Int) ++ List.replicate a1.toNat 0).length := ⟨_, rfl⟩; rw [← hm] at hv1 hlc; clear hm; subst hv1; have HO := Aside0.mk (Kd.R_take (m := 0) ho (Nat.zero_le _)); have HB1 := Aside0.mk hb; have hcut := cut_to (P := Try.prog) 22 5 .i64 Try.underlying22 hi0 A1 m c1 0 (by omega) (by omega) hlc; clear ho hb hlc)
      go_ret
      exact ⟨_, rfl, by simpa using HO.out, HB1.out⟩
    · subst hz
      go_enter Try.func35, Try.ntmps35
      go_wp2
      go_ret
      exact ⟨_, rfl, Kd.R_nil _ _ _ _ _, HB.out⟩
  · rw [if_neg c2] at H
    exact absurd H (by simp)


end Go.Proofs.Ytnonhhblfmceaaa.X
