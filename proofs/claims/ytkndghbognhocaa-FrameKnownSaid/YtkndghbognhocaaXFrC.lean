/- Bits turned in bytes: the sum tells (PkC's part of pure, over the frame seat's texts). -/
import Derived.Test.YtkndghbognhocaaXFrSep2
namespace Go.Proofs.Ytkndghbognhocaa.Pure
set_option linter.unusedVariables false
set_option linter.unusedSimpArgs false
open Go.RowKit Go.Proofs.Ytkndghbognhocaa.X Go.Proofs.YtkndghbognhocaaW.PrintWords Go.Proofs.YtkndghbognhocaaW.PrintLast Go.Proofs.YtkndghbognhocaaW.PrintMore

/-- A number's bytes, so many, the lowest first. -/
def digits : Nat → Nat → List Nat
  | _, 0 => []
  | n, m + 1 => n % 256 :: digits (n / 256) m
theorem digits_length (n m : Nat) : (digits n m).length = m := by
  induction m generalizing n with
  | zero => rfl
  | succ m ih => simp [digits, ih]
theorem digits_B (n m : Nat) : Crc.B (digits n m) := by
  induction m generalizing n with
  | zero => intro c hc; cases hc
  | succ m ih =>
    intro c hc
    rcases List.mem_cons.1 hc with rfl | hc
    · exact Nat.mod_lt _ (by omega)
    · exact ih _ c hc
theorem word_digits (n m : Nat) : Crc.word (digits n m) = n % 2 ^ (8 * m) := by
  induction m generalizing n with
  | zero => simp [digits, Crc.word, Nat.mod_one]
  | succ m ih =>
    rw [digits, Crc.word, ih, show 2 ^ (8 * (m + 1)) = 256 * 2 ^ (8 * m) by rw [show 8 * (m + 1) = 8 + 8 * m by omega, Nat.pow_add], Nat.mod_mul]
/-- A number's bytes, laid over others. -/
def layN : Nat → List Nat → List Nat
  | _, [] => []
  | n, c :: l => (c ^^^ n % 256) :: layN (n / 256) l
theorem layN_lay (n : Nat) (l : List Nat) : layN n l = Crc.lay (digits n l.length) l := by
  induction l generalizing n with
  | nil => rfl
  | cons c l ih => simp only [layN, List.length_cons, digits, Crc.lay, ih]
theorem layN_length (n : Nat) (l : List Nat) : (layN n l).length = l.length := by
  induction l generalizing n with
  | nil => rfl
  | cons c l ih => simp [layN, ih]
theorem layN_B (n : Nat) (l : List Nat) (hl : Crc.B l) : Crc.B (layN n l) := by
  induction l generalizing n with
  | nil => exact hl
  | cons c l ih =>
    intro d hd
    rcases List.mem_cons.1 hd with rfl | hd
    · exact Nat.xor_lt_two_pow (n := 8) (hl c (by simp)) (by omega)
    · exact ih _ (fun e he => hl e (by simp [he])) d hd
theorem layN_none (n : Nat) (l : List Nat) (h : n % 2 ^ (8 * l.length) = 0) : layN n l = l := by
  induction l generalizing n with
  | nil => rfl
  | cons c l ih =>
    rw [List.length_cons, show 2 ^ (8 * (l.length + 1)) = 256 * 2 ^ (8 * l.length) by rw [show 8 * (l.length + 1) = 8 + 8 * l.length by omega, Nat.pow_add], Nat.mod_mul] at h
    have h1 : n % 256 = 0 := by omega
    have h2 : n / 256 % 2 ^ (8 * l.length) = 0 := by omega
    rw [layN, ih _ h2, h1, Nat.xor_zero]
/-- Behind any bytes: if up to 32 bits are turned the sum is another one, unless nothing is turned. -/
theorem burst_iff (s : Nat) (p l : List Nat) (hp : Crc.B p) (hl : Crc.B l) (hs : s < 4294967296) (n k : Nat) (hn : n < 4294967296) (hk : k < 8) (hm : 0 < l.length) :
    Crc.on s (p ++ layN (n * 2 ^ k) l) = Crc.on s (p ++ l) ↔ p ++ layN (n * 2 ^ k) l = p ++ l := by
  constructor
  · intro h
    have h1 : Crc.run (4294967295 ^^^ s) (p ++ layN (n * 2 ^ k) l) = Crc.run (4294967295 ^^^ s) (p ++ l) := by
      have := congrArg (fun z => 4294967295 ^^^ z) h
      simpa only [Crc.on, Crc.not_not] using this
    rw [Crc.run_append, Crc.run_append] at h1
    generalize Crc.run (4294967295 ^^^ s) p = r at h1
    have h2 := Crc.run_lay (digits (n * 2 ^ k) l.length) l r 0 (digits_length _ _)
    rw [Nat.xor_zero, ← layN_lay, h1, Crc.run_word _ (digits_B _ _), digits_length, Nat.zero_xor, word_digits] at h2
    have h3 : Crc.tn (8 * l.length) ((n * 2 ^ k) % 2 ^ (8 * l.length)) = 0 := by
      have := congrArg (fun z => Crc.run r l ^^^ z) h2
      simpa [← Nat.xor_assoc] using this.symm
    rw [layN_none _ _ (Crc.word_burst n k l.length hn hk hm h3)]
  · intro h; rw [h]

def layI : Nat → List Int → List Int
  | _, [] => []
  | n, c :: l => Go.bits .xor .u8 c (((n % 256 : Nat)) : Int) :: layI (n / 256) l
theorem xor_byte (c : Int) (h0 : 0 ≤ c) (h1 : c < 256) (n : Nat) (hn : n < 256) : Go.bits .xor .u8 c (n : Int) = ((c.toNat ^^^ n : Nat) : Int) := by
  obtain ⟨d, rfl⟩ := Int.eq_ofNat_of_zero_le h0
  exact u8_xor_nat d n (by omega) hn
theorem nat_layI (n : Nat) (l : List Int) (hl : BI l) : nat (layI n l) = layN n (nat l) := by
  induction l generalizing n with
  | nil => rfl
  | cons c l ih =>
    have hc := hl c (by simp)
    have := ih (n / 256) (fun x hx => hl x (by simp [hx]))
    simp only [layI, nat, List.map_cons, layN] at this ⊢
    rw [this, xor_byte c hc.1 hc.2 _ (by omega), Int.toNat_natCast]
theorem layI_BI (n : Nat) (l : List Int) (hl : BI l) : BI (layI n l) := by
  induction l generalizing n with
  | nil => exact hl
  | cons c l ih =>
    have hc := hl c (by simp)
    refine BI_cons ?_ ?_ (ih _ (fun x hx => hl x (by simp [hx])))
    · rw [xor_byte c hc.1 hc.2 _ (by omega)]; omega
    · rw [xor_byte c hc.1 hc.2 _ (by omega)]
      have : c.toNat ^^^ n % 256 < 256 := Nat.xor_lt_two_pow (n := 8) (by omega) (by omega)
      omega
theorem layI_length (n : Nat) (l : List Int) : (layI n l).length = l.length := by
  induction l generalizing n with
  | nil => rfl
  | cons c l ih => simp [layI, ih]
theorem nat_inj (a b : List Int) (ha : BI a) (hb : BI b) (h : nat a = nat b) : a = b := by
  induction a generalizing b with
  | nil => cases b with
    | nil => rfl
    | cons y b => simp [nat] at h
  | cons x a ih => cases b with
    | nil => simp [nat] at h
    | cons y b =>
      simp only [nat, List.map_cons, List.cons.injEq] at h
      have hx := ha x (by simp)
      have hy := hb y (by simp)
      rw [ih b (fun z hz => ha z (by simp [hz])) (fun z hz => hb z (by simp [hz])) h.2]
      congr 1
      omega
theorem layI_zero (l : List Int) (hl : BI l) : layI 0 l = l := nat_inj _ _ (layI_BI 0 l hl) hl (by rw [nat_layI 0 l hl, layN_none _ _ (by simp)])

theorem layI_xor (l : List Int) : ∀ (a b : Nat), BI l → layI (a ^^^ b) l = layI a (layI b l) := by
  induction l with
  | nil => intro a b _; rfl
  | cons c l ih =>
    intro a b hl
    have hc := hl c (by simp)
    have hl2 : BI l := fun x hx => hl x (by simp [hx])
    have e1 : (a ^^^ b) % 256 = a % 256 ^^^ b % 256 := by
      have := Nat.xor_mod_two_pow (a := a) (b := b) (n := 8)
      simpa using this
    have e2 : (a ^^^ b) / 256 = a / 256 ^^^ b / 256 := by
      have := Nat.shiftRight_xor_distrib (a := a) (b := b) (i := 8)
      simpa [Nat.shiftRight_eq_div_pow] using this
    have hb : c.toNat ^^^ b % 256 < 256 := Nat.xor_lt_two_pow (n := 8) (by omega) (by omega)
    have hab : a % 256 ^^^ b % 256 < 256 := Nat.xor_lt_two_pow (n := 8) (by omega) (by omega)
    show Go.bits .xor .u8 c (((a ^^^ b) % 256 : Nat) : Int) :: layI ((a ^^^ b) / 256) l = Go.bits .xor .u8 (Go.bits .xor .u8 c ((b % 256 : Nat) : Int)) ((a % 256 : Nat) : Int) :: layI (a / 256) (layI (b / 256) l)
    rw [e2, ih _ _ hl2, e1, xor_byte c hc.1 hc.2 _ hab, xor_byte c hc.1 hc.2 (b % 256) (by omega), xor_byte _ (by omega) (by omega) (a % 256) (by omega), Int.toNat_natCast]
    congr 2
    rw [Nat.xor_assoc, Nat.xor_comm (b % 256)]
theorem pow_mod_small (j : Nat) (h : j < 8) : 2 ^ j % 256 = 2 ^ j ∧ 2 ^ j / 256 = 0 := by
  have h : 2 ^ j ≤ 2 ^ 7 := Nat.pow_le_pow_right (by omega) (by omega)
  exact ⟨Nat.mod_eq_of_lt (by omega), Nat.div_eq_of_lt (by omega)⟩
theorem pow_mod_big (j : Nat) (h : 8 ≤ j) : 2 ^ j % 256 = 0 ∧ 2 ^ j / 256 = 2 ^ (j - 8) := by
  have e : 2 ^ j = 2 ^ (j - 8) * 256 := by rw [show 2 ^ (j - 8) * 256 = 2 ^ (j - 8) * 2 ^ 8 from rfl, ← Nat.pow_add]; congr 1; omega
  rw [e]
  exact ⟨Nat.mul_mod_left _ _, Nat.mul_div_cancel _ (by decide)⟩
theorem layI_pow (l : List Int) : ∀ j : Nat, BI l → j / 8 < l.length → layI (2 ^ j) l = l.set (j / 8) (Go.bits .xor .u8 (rd l ((j / 8 : Nat) : Int)) ((2 ^ (j % 8) : Nat) : Int)) := by
  induction l with
  | nil => intro j _ h; simp at h
  | cons c l ih =>
    intro j hl hj
    have hc := hl c (by simp)
    have hl2 : BI l := fun x hx => hl x (by simp [hx])
    show Go.bits .xor .u8 c ((2 ^ j % 256 : Nat) : Int) :: layI (2 ^ j / 256) l = _
    by_cases h8 : j < 8
    · obtain ⟨e1, e2⟩ := pow_mod_small j h8
      rw [e1, e2, layI_zero l hl2, show j / 8 = 0 by omega, show j % 8 = j by omega]
      rfl
    · obtain ⟨e1, e2⟩ := pow_mod_big j (by omega)
      simp only [List.length_cons] at hj
      rw [e1, e2, ih (j - 8) hl2 (by omega), show j / 8 = (j - 8) / 8 + 1 by omega, show j % 8 = (j - 8) % 8 by omega]
      rw [List.set_cons_succ]
      have e3 : Go.bits .xor .u8 c ((0 : Nat) : Int) = c := by rw [xor_byte c hc.1 hc.2 0 (by omega), Nat.xor_zero]; omega
      have e4 : rd (c :: l) (((j - 8) / 8 + 1 : Nat) : Int) = rd l (((j - 8) / 8 : Nat) : Int) := by
        rw [rd_at l _ (by omega), rd_at (c :: l) _ (by simp; omega)]
        rfl
      rw [e3, e4]
theorem layI_self (l : List Int) : ∀ m : Nat, BI l → m < 2 ^ (8 * l.length) → layI m l = l → m = 0 := by
  induction l with
  | nil => intro m _ h _; simpa using h
  | cons c l ih =>
    intro m hl h e
    have hc := hl c (by simp)
    have hl2 : BI l := fun x hx => hl x (by simp [hx])
    have e' : Go.bits .xor .u8 c ((m % 256 : Nat) : Int) :: layI (m / 256) l = c :: l := e
    simp only [List.cons.injEq] at e'
    have h2 : m / 256 < 2 ^ (8 * l.length) := by
      rw [List.length_cons, Nat.mul_add, Nat.pow_add] at h
      exact Nat.div_lt_of_lt_mul (by rw [Nat.mul_comm]; exact h)
    have h3 := ih (m / 256) hl2 h2 e'.2
    have h4 := e'.1
    rw [xor_byte c hc.1 hc.2 _ (by omega)] at h4
    have h5 : c.toNat ^^^ m % 256 = c.toNat := by omega
    have h6 := congrArg (fun z => c.toNat ^^^ z) h5
    simp only [← Nat.xor_assoc, Nat.xor_self, Nat.zero_xor] at h6
    omega
/-- A number's bits up to one more. -/
theorem mod_succ_bit (n i : Nat) : n % 2 ^ (i + 1) = if n / 2 ^ i % 2 = 1 then (n % 2 ^ i) ^^^ 2 ^ i else n % 2 ^ i := by
  have h1 : n % 2 ^ (i + 1) = n % 2 ^ i + 2 ^ i * (n / 2 ^ i % 2) := by
    rw [Nat.pow_succ, Nat.mod_mul]
  have h2 : n % 2 ^ i < 2 ^ i := Nat.mod_lt _ (Nat.two_pow_pos i)
  by_cases h : n / 2 ^ i % 2 = 1
  · rw [if_pos h, h1, h, Nat.mul_one, Nat.xor_comm]
    have h3 := Nat.two_pow_add_eq_or_of_lt h2 1
    rw [Nat.mul_one] at h3
    rw [Nat.add_comm, h3]
    apply Nat.eq_of_testBit_eq
    intro j
    rw [Nat.testBit_or, Nat.testBit_xor, Nat.testBit_two_pow]
    by_cases hj : i = j
    · subst hj
      rw [Nat.testBit_lt_two_pow h2]
      simp
    · simp [hj]
  · rw [if_neg h, h1, show n / 2 ^ i % 2 = 0 by omega]; simp
/-- The same, laid a little higher. -/
theorem lay_succ (n i s : Nat) : (n % 2 ^ (i + 1)) * 2 ^ s = if n / 2 ^ i % 2 = 1 then 2 ^ (i + s) ^^^ ((n % 2 ^ i) * 2 ^ s) else (n % 2 ^ i) * 2 ^ s := by
  rw [mod_succ_bit]
  split
  · rw [Nat.xor_comm, ← Nat.shiftLeft_eq, Nat.shiftLeft_xor_distrib, Nat.shiftLeft_eq, Nat.shiftLeft_eq, ← Nat.pow_add]
  · rfl
end Go.Proofs.Ytkndghbognhocaa.Pure
