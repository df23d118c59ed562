/- CrcNoughts: two lists of noughts, each of fewer than 5000, have the same sum just if they are as long: for any two numbers. -/
import Derived.Test.YtimpejljlnnlaaaXx16
import Derived.Test.YtimpejljlnnlaaaXCrcMore
namespace Go.Proofs.Ytimpejljlnnlaaa.Pure
set_option linter.unusedVariables false
open Go.RowKit Go.Proofs.Ytimpejljlnnlaaa.X Go.Proofs.YtimpejljlnnlaaaW.PrintWords Go.Proofs.YtimpejljlnnlaaaW.PrintLast Go.Proofs.YtimpejljlnnlaaaW.PrintMore

/-- From x on, in none of k steps of eight bits the state is all ones again. -/
def apart : Nat → Nat → Bool
  | 0, _ => true
  | k + 1, x => match Crc.tn 8 x with
    | 0 => false
    | y + 1 => if y = 4294967294 then false else apart k (y + 1)
theorem apart_spec (k : Nat) : ∀ x, apart k x = true → ∀ j, 0 < j → j ≤ k → Crc.tn (8 * j) x ≠ 4294967295 := by
  induction k with
  | zero => intro x _ j h0 h1; omega
  | succ k ih =>
    intro x h j h0 h1
    rw [apart] at h
    split at h
    · simp at h
    · rename_i y hy
      split at h
      · simp at h
      · rename_i hne
        rw [show 8 * j = 8 + 8 * (j - 1) by omega, Crc.tn_add, hy]
        by_cases hj : j = 1
        · subst hj
          simp only [Nat.sub_self, Nat.mul_zero, Crc.tn]
          omega
        · exact ih _ h (j - 1) (by omega) (by omega)
theorem apart_all : apart 5000 4294967295 = true := by decide +kernel
theorem run_zeros (n s : Nat) : Crc.run s (List.replicate n 0) = Crc.tn (8 * n) s := by
  have hB : Crc.B (List.replicate n 0) := fun c hc => by rw [(List.mem_replicate.1 hc).2]; omega
  have hw : Crc.word (List.replicate n 0) = 0 := by
    clear hB
    induction n with
    | zero => rfl
    | succ n ih => simp [List.replicate_succ, Crc.word, ih]
  rw [Crc.run_word _ hB, hw, List.length_replicate, Nat.xor_zero]
theorem noughts_lt (m n : Nat) (h : m < n) (hn : n < 5000) : Crc.on 0 (List.replicate m 0) ≠ Crc.on 0 (List.replicate n 0) := by
  intro he
  unfold Crc.on at he
  rw [Nat.xor_zero, run_zeros, run_zeros] at he
  have h1 := congrArg (fun z => 4294967295 ^^^ z) he
  simp only [Crc.not_not] at h1
  rw [show 8 * n = 8 * (n - m) + 8 * m by omega, Crc.tn_add] at h1
  have h2 := Crc.tn_inj (8 * m) _ _ (by omega) (Crc.tn_lt _ _ (by omega)) h1
  exact apart_spec 5000 _ apart_all (n - m) (by omega) (by omega) h2.symm
theorem noughts_iff (m n : Nat) (hm : m < 5000) (hn : n < 5000) : onI 0 (List.replicate m 0) = onI 0 (List.replicate n 0) ↔ m = n := by
  have e : ∀ j : Nat, onI 0 (List.replicate j 0) = ((Crc.on 0 (List.replicate j 0) : Nat) : Int) := fun j => by simp [onI, nat]
  rw [e, e]
  constructor
  · intro h
    rcases Nat.lt_trichotomy m n with hlt | heq | hgt
    · exact absurd (by omega) (noughts_lt m n hlt hn)
    · exact heq
    · exact absurd (by omega) (noughts_lt n m hgt hm)
  · rintro rfl; rfl
theorem zeros_BI (n : Nat) : BI (List.replicate n 0) := fun x hx => by rw [(List.mem_replicate.1 hx).2]; omega
theorem CrcNoughts : incunablelaw02_CrcNoughts.Pure := by
  intro a b ha hb
  obtain ⟨a0, a1⟩ := wf_i64 ha
  obtain ⟨b0, b1⟩ := wf_i64 hb
  refine Ev.rounds ?_
  unfold incunablelaw02_CrcNoughts.f
  obtain ⟨m, hm, m0, m1⟩ := bring_some a 5000 a0 a1 (by omega) (by omega)
  obtain ⟨n, hn, n0, n1⟩ := bring_some b 5000 b0 b1 (by omega) (by omega)
  obtain ⟨m, rfl⟩ := Int.eq_ofNat_of_zero_le m0
  obtain ⟨n, rfl⟩ := Int.eq_ofNat_of_zero_le n0
  refine Ev.bind (f := fun k t => _) works_ev ?_
  refine ev_pos rfl ?_
  refine ev_some (f := fun k t => _) hm (ev_some (f := fun k t => _) hn ?_)
  simp only [Int.toNat_natCast]
  refine ev_pos (by omega) (ev_pos (by omega) ?_)
  refine Ev.bind (f := fun k t => _) (of_ev _ (zeros_BI m) (by simp; omega)) ?_
  refine ev_pos (by omega) (ev_pos (by omega) ?_)
  refine Ev.bind (f := fun _ t224 => some ((onI 0 (List.replicate m 0) == t224) == ((m : Int) == (n : Int)))) (of_ev _ (zeros_BI n) (by simp; omega)) ?_
  refine ev_eq ?_ (Ev.now _)
  rw [beq_iff_eq, Bool.eq_iff_iff, beq_iff_eq, beq_iff_eq, noughts_iff m n (by omega) (by omega)]
  omega
end Go.Proofs.Ytimpejljlnnlaaa.Pure
