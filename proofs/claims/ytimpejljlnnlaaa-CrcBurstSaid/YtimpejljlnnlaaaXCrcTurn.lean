/- Bits that are turned within 32: what becomes of the bytes, and of the sum. -/
import Derived.Test.YtimpejljlnnlaaaXCrcFns
namespace Go.Proofs.Ytimpejljlnnlaaa.Pure
set_option linter.unusedVariables false
set_option linter.unusedSimpArgs false
open Go.RowKit Go.Proofs.Ytimpejljlnnlaaa.X Go.Proofs.YtimpejljlnnlaaaW.PrintWords Go.Proofs.YtimpejljlnnlaaaW.PrintLast Go.Proofs.YtimpejljlnnlaaaW.PrintMore

/-- A number's bytes, so many, the lowest first. -/
def digits : Nat → Nat → List Nat
  | _, 0 => []
  | n, m + 1 => n % 256 :: digits (n / 256) m
theorem digits_length (n m : Nat) : (digits n m).length = m := by
  induction m generalizing n with
  | zero => rfl
  | succ m ih => simp [digits, ih]
theorem digits_B (n m : Nat) : Crc.B (digits n m) := by
  induction m generalizing n with
  | zero => intro c hc; cases hc
  | succ m ih =>
    intro c hc
    rcases List.mem_cons.1 hc with rfl | hc
    · exact Nat.mod_lt _ (by omega)
    · exact ih _ c hc
theorem word_digits (n m : Nat) : Crc.word (digits n m) = n % 2 ^ (8 * m) := by
  induction m generalizing n with
  | zero => simp [digits, Crc.word, Nat.mod_one]
  | succ m ih =>
    rw [digits, Crc.word, ih, show 2 ^ (8 * (m + 1)) = 256 * 2 ^ (8 * m) by rw [show 8 * (m + 1) = 8 + 8 * m by omega, Nat.pow_add], Nat.mod_mul]
/-- A number's bytes, laid over others. -/
def layN : Nat → List Nat → List Nat
  | _, [] => []
  | n, c :: l => (c ^^^ n % 256) :: layN (n / 256) l
theorem layN_lay (n : Nat) (l : List Nat) : layN n l = Crc.lay (digits n l.length) l := by
  induction l generalizing n with
  | nil => rfl
  | cons c l ih => simp only [layN, List.length_cons, digits, Crc.lay, ih]
theorem layN_length (n : Nat) (l : List Nat) : (layN n l).length = l.length := by
  induction l generalizing n with
  | nil => rfl
  | cons c l ih => simp [layN, ih]
theorem layN_B (n : Nat) (l : List Nat) (hl : Crc.B l) : Crc.B (layN n l) := by
  induction l generalizing n with
  | nil => exact hl
  | cons c l ih =>
    intro d hd
    rcases List.mem_cons.1 hd with rfl | hd
    · exact Nat.xor_lt_two_pow (n := 8) (hl c (by simp)) (by omega)
    · exact ih _ (fun e he => hl e (by simp [he])) d hd
theorem layN_none (n : Nat) (l : List Nat) (h : n % 2 ^ (8 * l.length) = 0) : layN n l = l := by
  induction l generalizing n with
  | nil => rfl
  | cons c l ih =>
    rw [List.length_cons, show 2 ^ (8 * (l.length + 1)) = 256 * 2 ^ (8 * l.length) by rw [show 8 * (l.length + 1) = 8 + 8 * l.length by omega, Nat.pow_add], Nat.mod_mul] at h
    have h1 : n % 256 = 0 := by omega
    have h2 : n / 256 % 2 ^ (8 * l.length) = 0 := by omega
    rw [layN, ih _ h2, h1, Nat.xor_zero]
/-- Behind any bytes: if up to 32 bits are turned the sum is another one, unless nothing is turned. -/
theorem burst_iff (s : Nat) (p l : List Nat) (hp : Crc.B p) (hl : Crc.B l) (hs : s < 4294967296) (n k : Nat) (hn : n < 4294967296) (hk : k < 8) (hm : 0 < l.length) :
    Crc.on s (p ++ layN (n * 2 ^ k) l) = Crc.on s (p ++ l) ↔ p ++ layN (n * 2 ^ k) l = p ++ l := by
  constructor
  · intro h
    have h1 : Crc.run (4294967295 ^^^ s) (p ++ layN (n * 2 ^ k) l) = Crc.run (4294967295 ^^^ s) (p ++ l) := by
      have := congrArg (fun z => 4294967295 ^^^ z) h
      simpa only [Crc.on, Crc.not_not] using this
    rw [Crc.run_append, Crc.run_append] at h1
    generalize Crc.run (4294967295 ^^^ s) p = r at h1
    have h2 := Crc.run_lay (digits (n * 2 ^ k) l.length) l r 0 (digits_length _ _)
    rw [Nat.xor_zero, ← layN_lay, h1, Crc.run_word _ (digits_B _ _), digits_length, Nat.zero_xor, word_digits] at h2
    have h3 : Crc.tn (8 * l.length) ((n * 2 ^ k) % 2 ^ (8 * l.length)) = 0 := by
      have := congrArg (fun z => Crc.run r l ^^^ z) h2
      simpa [← Nat.xor_assoc] using this.symm
    rw [layN_none _ _ (Crc.word_burst n k l.length hn hk hm h3)]
  · intro h; rw [h]
end Go.Proofs.Ytimpejljlnnlaaa.Pure
