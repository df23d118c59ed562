/- VarnumSizes: as many bytes as seven bits make. -/
import Derived.Test.YtnonhhblfmceaaaXx22
import Derived.Test.YtnonhhblfmceaaaXVarTexts
namespace Go.Proofs.Ytnonhhblfmceaaa.Pure
set_option linter.unusedVariables false
open Go.RowKit Go.Proofs.Ytnonhhblfmceaaa.X Go.Proofs.YtnonhhblfmceaaaW.PrintWords Go.Proofs.YtnonhhblfmceaaaW.PrintLast Go.Proofs.YtnonhhblfmceaaaW.PrintMore

theorem sizes_loop (a b : Int) (n m : Nat) (ha : incunablelaw01_number.f a = some (n : Int)) (hb : incunablelaw01_number.f b = some (m : Int)) (h : n ≤ 9007199254740991) (d : Nat) :
    ∀ t : Nat, t + d = 7 → (t = 0 ∨ 2 ^ (7 * t) ≤ n) → Ev (fun k => incunablelaw01_VarnumSizes.l0 k a b (enc n) 0 (enc m) 0 ((t + 1 : Nat) : Int) ((2 ^ (7 * (t + 1)) - 1 : Nat) : Int)) true := by
  induction d with
  | zero =>
    intro t ht hs
    obtain rfl : t = 7 := by omega
    refine Ev.step (f := fun k => _) (fun k => by simp only [incunablelaw01_VarnumSizes.l0]; rfl) ?_
    refine ev_some (f := fun k t => _) ha (ev_neg (by omega) (ev_pos trivial (ev_pos trivial ?_)))
    have hl := enc_len 7 n (by omega) hs
    by_cases h1 : ((enc n).length : Int) ≤ ((enc m).length : Int)
    · refine ev_pos h1 (ev_eq ?_ (Ev.now _))
      rw [hl]; rfl
    · refine ev_neg h1 (ev_some (f := fun k t => _) ha (ev_some (f := fun k t => _) hb (ev_pos ?_ (ev_eq ?_ (Ev.now _)))))
      · apply Int.lt_of_not_ge
        intro h2
        exact h1 (by have := enc_mono m n (by omega); omega)
      · rw [hl]; rfl
  | succ d ih =>
    intro t ht hs
    refine Ev.step (f := fun k => _) (fun k => by simp only [incunablelaw01_VarnumSizes.l0]; rfl) ?_
    refine ev_some (f := fun k t => _) ha ?_
    have hp : 2 ^ (7 * (t + 1)) ≤ 2 ^ 49 := Nat.pow_le_pow_right (by omega) (by omega)
    have hq : 2 ^ (7 * (t + 1 + 1)) = 2 ^ (7 * (t + 1)) * 128 := by rw [show 7 * (t + 1 + 1) = 7 * (t + 1) + 7 by omega, Nat.pow_add]
    have h0 : 0 < 2 ^ (7 * (t + 1)) := Nat.two_pow_pos _
    by_cases h2 : ((2 ^ (7 * (t + 1)) - 1 : Nat) : Int) < (n : Int)
    · refine ev_pos h2 ?_
      have := ih (t + 1) (by omega) (Or.inr (by omega))
      rw [w64 (by omega) (by omega), w64 (x := ((2 ^ (7 * (t + 1)) - 1 : Nat) : Int) * 128) (by omega) (by omega), w64 (by omega) (by omega)]
      rw [show ((t + 1 : Nat) : Int) + 1 = ((t + 1 + 1 : Nat) : Int) by omega, show ((2 ^ (7 * (t + 1)) - 1 : Nat) : Int) * 128 + 127 = ((2 ^ (7 * (t + 1 + 1)) - 1 : Nat) : Int) by rw [hq]; omega]
      exact this
    · refine ev_neg h2 (ev_pos trivial (ev_pos trivial ?_))
      have hl := enc_len t n (by omega) hs
      by_cases h1 : ((enc n).length : Int) ≤ ((enc m).length : Int)
      · refine ev_pos h1 (ev_eq ?_ (Ev.now _))
        rw [hl]; simp
      · refine ev_neg h1 (ev_some (f := fun k t => _) ha (ev_some (f := fun k t => _) hb (ev_pos ?_ (ev_eq ?_ (Ev.now _)))))
        · apply Int.lt_of_not_ge
          intro h2
          exact h1 (by have := enc_mono m n (by omega); omega)
        · rw [hl]; simp
theorem VarnumSizes : incunablelaw01_VarnumSizes.Pure := by
  intro a b ha hb
  have ha := wf_i64 ha
  have hb := wf_i64 hb
  refine Ev.rounds ?_
  unfold incunablelaw01_VarnumSizes.f
  refine Ev.bind (f := fun k t => _) works_ev (ev_pos rfl ?_)
  obtain ⟨n, hn, hn2⟩ := number_some a ha.1 ha.2
  obtain ⟨m, hm, hm2⟩ := number_some b hb.1 hb.2
  refine ev_some (f := fun k t => _) hn ?_
  refine Ev.bind (f := fun k t => _) (num_ev _) ?_
  rw [numI_ok n hn2]
  refine ev_some (f := fun k t => _) hm ?_
  refine Ev.bind (f := fun k t => _) (num_ev _) ?_
  rw [numI_ok m hm2]
  exact sizes_loop a b n m hn hm hn2 7 0 (by omega) (Or.inl rfl)
end Go.Proofs.Ytnonhhblfmceaaa.Pure
