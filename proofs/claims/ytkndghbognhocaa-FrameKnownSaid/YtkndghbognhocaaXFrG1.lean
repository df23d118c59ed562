/- Joined by frjoin.py, a program of these sessions, out of: CrcMath, FrA, FrPure, FrSkip, VarMath. -/
import Derived.Test.YtkndghbognhocaaXLit
import Derived.Test.YtkndghbognhocaaWMore
import Derived.Test.YtkndghbognhocaaWLast
import Derived.Laws.BitsAllLaws
import Derived.Lib.Bytes
import Derived.Lib.Bytealg
import Derived.Test.YtkndghbognhocaaXx4
import Derived.Test.YtkndghbognhocaaXx1
import Derived.Test.YtkndghbognhocaaXx2
import Derived.Test.YtkndghbognhocaaXx3
import Derived.Test.YtkndghbognhocaaXx5
import Derived.Test.YtkndghbognhocaaXx7
namespace Go.Proofs.Ytkndghbognhocaa.Pure
set_option linter.unusedVariables false
set_option linter.unusedSimpArgs false
open Go.RowKit Go.Proofs.YtkndghbognhocaaW.PrintWords Go.Proofs.YtkndghbognhocaaW.PrintLast Go.Proofs.YtkndghbognhocaaW.PrintMore

theorem ev_pos {α : Type} {c : Prop} [Decidable c] {f g : Nat → Option α} {r : α} (h : c) (k : Ev f r) : Ev (fun n => if c then f n else g n) r := by
  simpa only [if_pos h] using k
theorem ev_neg {α : Type} {c : Prop} [Decidable c] {f g : Nat → Option α} {r : α} (h : ¬ c) (k : Ev g r) : Ev (fun n => if c then f n else g n) r := by
  simpa only [if_neg h] using k
theorem ev_some {α β : Type} {f : Nat → α → Option β} {o : Option α} {a : α} {r : β} (h : o = some a) (k : Ev (fun n => f n a) r) : Ev (fun n => o.bind (f n)) r := by
  subst h; exact k
theorem ev_eq {α : Type} {f : Nat → Option α} {r r' : α} (h : r = r') (k : Ev f r) : Ev f r' := h ▸ k
def BI (l : List Int) : Prop := ∀ x ∈ l, 0 ≤ x ∧ x < 256
theorem BI_nil : BI [] := fun _ h => by cases h
theorem BI_cons {c : Int} {l : List Int} (h0 : 0 ≤ c) (h1 : c < 256) (h : BI l) : BI (c :: l) := by
  intro x hx
  rcases List.mem_cons.1 hx with rfl | hx
  · exact ⟨h0, h1⟩
  · exact h x hx
theorem BI_append {a b : List Int} (ha : BI a) (hb : BI b) : BI (a ++ b) := fun x hx => (List.mem_append.1 hx).elim (ha x) (hb x)
theorem BI_take {l : List Int} (h : BI l) (n : Nat) : BI (l.take n) := fun x hx => h x (List.mem_of_mem_take hx)
theorem BI_drop {l : List Int} (h : BI l) (n : Nat) : BI (l.drop n) := fun x hx => h x (List.mem_of_mem_drop hx)
theorem BI_of (l : List Int) (h : l.all (fun x => decide (0 ≤ x) && decide (x < 256)) = true) : BI l := by
  intro x hx
  have := List.all_eq_true.1 h x hx
  simpa using this
theorem rd_at (l : List Int) (i : Nat) (hi : i < l.length) : rd l (i : Int) = l[i] := by
  simp only [rd, Int.toNat_natCast, List.getD_eq_getElem?_getD, List.getElem?_eq_getElem hi, Option.getD_some]
theorem wf_u8 {x : Int} (h : (Lit.int .u8 x).wf = true) : 0 ≤ x ∧ x < 256 := by
  simp only [Lit.wf, Bool.and_eq_true, decide_eq_true_eq] at h
  have h1 : IntKind.u8.min = 0 := rfl
  have h2 : IntKind.u8.max = 255 := rfl
  omega
theorem wf_i64 {x : Int} (h : (Lit.int .i64 x).wf = true) : -9223372036854775808 ≤ x ∧ x < 9223372036854775808 := by
  simp only [Lit.wf, Bool.and_eq_true, decide_eq_true_eq] at h
  have h1 : IntKind.i64.min = -9223372036854775808 := rfl
  have h2 : IntKind.i64.max = 9223372036854775807 := rfl
  omega
theorem BI_wf {l : List Int} (h : ∀ x ∈ l, (Lit.int .u8 x).wf = true) : BI l := fun x hx => wf_u8 (h x hx)
theorem w64 {x : Int} (h0 : -9223372036854775808 ≤ x) (h1 : x < 9223372036854775808) : wrap64 x = x := by unfold wrap64; omega
theorem mn_spec (a b : Int) : mn a b ≤ a ∧ mn a b ≤ b ∧ (mn a b = a ∨ mn a b = b) := by unfold mn; split <;> omega

/-! ### written -/
/-- A number's bytes. -/
def enc (n : Nat) : List Int := if h : n < 128 then [(n : Int)] else ((n % 128 + 128 : Nat) : Int) :: enc (n / 128)
termination_by n
decreasing_by omega
theorem enc_small (n : Nat) (h : n < 128) : enc n = [(n : Int)] := by rw [enc, dif_pos h]
theorem enc_big (n : Nat) (h : ¬ n < 128) : enc n = ((n % 128 + 128 : Nat) : Int) :: enc (n / 128) := by rw [enc, dif_neg h]
theorem enc_length (d : Nat) : ∀ n, n < 2 ^ (7 * (d + 1)) → (enc n).length ≤ d + 1 := by
  induction d with
  | zero => intro n h; rw [enc_small n (by simpa using h)]; simp
  | succ d ih =>
    intro n h
    by_cases hn : n < 128
    · rw [enc_small n hn]; simp
    · rw [enc_big n hn, List.length_cons]
      have := ih (n / 128) (by
        rw [show 7 * (d + 1 + 1) = 7 * (d + 1) + 7 by omega, Nat.pow_add] at h
        omega)
      omega
theorem enc_pos (n : Nat) : 0 < (enc n).length := by
  by_cases hn : n < 128
  · rw [enc_small n hn]; simp
  · rw [enc_big n hn]; simp
theorem enc_le8 (n : Nat) (h : n ≤ 9007199254740991) : (enc n).length ≤ 8 := enc_length 7 n (by omega)
theorem enc_BI (m : Nat) : ∀ n, n ≤ m → BI (enc n) := by
  induction m with
  | zero => intro n h; rw [enc_small n (by omega)]; exact BI_cons (by omega) (by omega) BI_nil
  | succ m ih =>
    intro n h
    by_cases hn : n < 128
    · rw [enc_small n hn]; exact BI_cons (by omega) (by omega) BI_nil
    · rw [enc_big n hn]; exact BI_cons (by omega) (by omega) (ih _ (by omega))

/-! ### read -/
/-- error (0: none), number, how many bytes, is the last one nought -/
def raw : Nat → List Int → Int × Nat × Nat × Bool
  | 0, _ => (4, 0, 0, false)
  | _ + 1, [] => (3, 0, 0, false)
  | d + 1, b :: l => if b < 128 then (0, b.toNat, 1, decide (b = 0)) else if (raw d l).1 = 0 then (0, (b.toNat - 128) + 128 * (raw d l).2.1, (raw d l).2.2.1 + 1, (raw d l).2.2.2) else ((raw d l).1, 0, 0, false)
def fin (n s : Nat) (z : Bool) : Int × Int × Int := if (z = true ∧ 1 < s) ∨ 9007199254740991 < n then (0, 0, 4) else ((n : Int), (s : Int), 0)
def out (acc p i : Nat) (r : Int × Nat × Nat × Bool) : Int × Int × Int := if r.1 = 0 then fin (acc + p * r.2.1) (i + r.2.2.1) r.2.2.2 else (0, 0, r.1)
/-- number, how many bytes, error -/
def tk (l : List Int) : Int × Int × Int := out 0 1 0 (raw 8 l)
theorem raw_size (d : Nat) : ∀ l, (raw d l).1 = 0 → 1 ≤ (raw d l).2.2.1 ∧ (raw d l).2.2.1 ≤ l.length ∧ (raw d l).2.2.1 ≤ d := by
  induction d with
  | zero => intro l h; simp [raw] at h
  | succ d ih =>
    intro l h
    cases l with
    | nil => simp [raw] at h
    | cons b l =>
      by_cases hb : b < 128
      · simp [raw, hb]
      · by_cases hr : (raw d l).1 = 0
        · have := ih l hr
          simp only [raw, if_neg hb, if_pos hr, List.length_cons]
          omega
        · simp [raw, hb, hr] at h
theorem raw_err (d : Nat) : ∀ l, (raw d l).1 = 0 ∨ (raw d l).1 = 3 ∨ (raw d l).1 = 4 := by
  induction d with
  | zero => intro l; simp [raw]
  | succ d ih =>
    intro l
    cases l with
    | nil => simp [raw]
    | cons b l =>
      by_cases hb : b < 128
      · simp [raw, hb]
      · by_cases hr : (raw d l).1 = 0
        · simp [raw, hb, hr]
        · have := ih l
          simp only [raw, if_neg hb, if_neg hr]
          omega
theorem tk_spec (l : List Int) : (∃ n s : Nat, tk l = ((n : Int), (s : Int), 0) ∧ n ≤ 9007199254740991 ∧ 1 ≤ s ∧ s ≤ l.length ∧ raw 8 l = (0, n, s, (raw 8 l).2.2.2) ∧ ((raw 8 l).2.2.2 = true → s ≤ 1)) ∨ tk l = (0, 0, 3) ∨ tk l = (0, 0, 4) := by
  unfold tk out
  by_cases h : (raw 8 l).1 = 0
  · obtain ⟨h1, h2, h3⟩ := raw_size 8 l h
    rw [if_pos h]
    unfold fin
    simp only [Nat.zero_add, Nat.one_mul]
    split
    · exact Or.inr (Or.inr rfl)
    · rename_i hc
      refine Or.inl ⟨_, _, rfl, by omega, h1, h2, ?_, fun hz => ?_⟩
      · exact Prod.ext h rfl
      · apply Nat.le_of_not_lt
        intro h4
        exact hc (Or.inl ⟨hz, h4⟩)
  · rw [if_neg h]
    rcases raw_err 8 l with he | he | he
    · exact absurd he h
    · rw [he]; exact Or.inr (Or.inl rfl)
    · rw [he]; exact Or.inr (Or.inr rfl)
/-- What is written is read. -/
theorem raw_enc (d : Nat) : ∀ (n : Nat) (r : List Int), n < 2 ^ (7 * (d + 1)) → raw (d + 1) (enc n ++ r) = (0, n, (enc n).length, decide (n = 0)) := by
  induction d with
  | zero =>
    intro n r h
    have hn : n < 128 := by simpa using h
    rw [enc_small n hn]
    simp [raw, show (n : Int) < 128 by omega]
  | succ d ih =>
    intro n r h
    by_cases hn : n < 128
    · rw [enc_small n hn]
      simp [raw, show (n : Int) < 128 by omega]
    · have h2 : n / 128 < 2 ^ (7 * (d + 1)) := by
        rw [show 7 * (d + 1 + 1) = 7 * (d + 1) + 7 by omega, Nat.pow_add] at h
        omega
      rw [enc_big n hn, List.cons_append, raw, if_neg (by omega), ih _ r h2, if_pos rfl]
      have e1 : decide (n / 128 = 0) = false := decide_eq_false (by omega)
      have e2 : decide (n = 0) = false := decide_eq_false (by omega)
      simp only [e1, e2, List.length_cons, Int.toNat_natCast, Prod.mk.injEq, and_true, true_and]
      omega
theorem tk_enc (n : Nat) (r : List Int) (h : n ≤ 9007199254740991) : tk (enc n ++ r) = ((n : Int), ((enc n).length : Int), 0) := by
  unfold tk out
  rw [raw_enc 7 n r (by omega), if_pos rfl]
  unfold fin
  rw [if_neg]
  · simp
  · rintro (⟨h0, h1⟩ | h1)
    · have : n = 0 := by simpa using h0
      subst this
      rw [enc_small 0 (by omega)] at h1
      simp at h1
    · simp at h1; omega
/-- What is read is written so. -/
theorem enc_raw (d : Nat) : ∀ (l : List Int), BI l → (raw d l).1 = 0 → ((raw d l).2.2.2 = true → (raw d l).2.2.1 ≤ 1) → enc (raw d l).2.1 = l.take (raw d l).2.2.1 ∧ ((raw d l).2.2.2 = false → 0 < (raw d l).2.1) := by
  induction d with
  | zero => intro l _ h; simp [raw] at h
  | succ d ih =>
    intro l hB h hz
    cases l with
    | nil => simp [raw] at h
    | cons b l =>
      have hb := hB b (by simp)
      by_cases h1 : b < 128
      · simp only [raw, if_pos h1] at hz ⊢
        rw [enc_small _ (by omega)]
        refine ⟨by simp; omega, fun h0 => ?_⟩
        have : ¬ b = 0 := by simpa using h0
        omega
      · by_cases hr : (raw d l).1 = 0
        · simp only [raw, if_neg h1, if_pos hr] at hz ⊢
          have hs := raw_size d l hr
          have hzf : (raw d l).2.2.2 = false := by
            cases hq : (raw d l).2.2.2 with
            | false => rfl
            | true => have := hz hq; omega
          obtain ⟨e, p⟩ := ih l (fun x hx => hB x (by simp [hx])) hr (fun hq => by rw [hzf] at hq; cases hq)
          have p := p hzf
          refine ⟨?_, fun _ => by omega⟩
          rw [enc_big _ (by omega), List.take_succ_cons, show (b.toNat - 128 + 128 * (raw d l).2.1) / 128 = (raw d l).2.1 by omega, e]
          congr 1
          omega
        · simp [raw, h1, hr] at h
theorem enc_tk (l : List Int) (hB : BI l) (n s : Nat) (h : tk l = ((n : Int), (s : Int), 0)) : enc n = l.take s := by
  rcases tk_spec l with ⟨n', s', h1, _, _, _, h2, h3⟩ | h1 | h1
  · rw [h1] at h
    have e1 : n' = n := by have := congrArg (fun z => z.1) h; simp at this; omega
    have e2 : s' = s := by have := congrArg (fun z => z.2.1) h; simp at this; omega
    subst e1; subst e2
    have hn : (raw 8 l).2.1 = n' := by rw [h2]
    have hs : (raw 8 l).2.2.1 = s' := by rw [h2]
    have := (enc_raw 8 l hB (by rw [h2]) (fun hz => by rw [hs]; exact h3 hz)).1
    rwa [hn, hs] at this
  · rw [h1] at h; simp at h
  · rw [h1] at h; simp at h
/-- What is cut is told. -/
theorem raw_cut (d : Nat) : ∀ (n t : Nat), t < (enc n).length → t < d → raw d ((enc n).take t) = (3, 0, 0, false) := by
  induction d with
  | zero => intro n t _ h; omega
  | succ d ih =>
    intro n t ht hd
    cases t with
    | zero => simp [raw]
    | succ t =>
      by_cases hn : n < 128
      · rw [enc_small n hn] at ht; simp at ht
      · rw [enc_big n hn, List.length_cons] at ht
        rw [enc_big n hn, List.take_succ_cons, raw, if_neg (by omega), ih _ t (by omega) (by omega), if_neg (by decide)]
theorem tk_cut (n t : Nat) (ht : t < (enc n).length) (hn : n ≤ 9007199254740991) : tk ((enc n).take t) = (0, 0, 3) := by
  unfold tk out
  rw [raw_cut 8 n t ht (by have := enc_le8 n hn; omega)]
  rfl
end Go.Proofs.Ytkndghbognhocaa.Pure
namespace Go.Proofs.Ytkndghbognhocaa.Crc

/-- The polynomial. -/
def P : Nat := 3988292384
/-- One bit falls out. -/
def t (x : Nat) : Nat := (x / 2) ^^^ (if x % 2 = 1 then 3988292384 else 0)
def tn : Nat → Nat → Nat
  | 0, x => x
  | k + 1, x => tn k (t x)

theorem xor_mod2 (x y : Nat) : (x ^^^ y) % 2 = (x % 2) ^^^ (y % 2) := by
  have := @Nat.xor_mod_two_pow x y 1
  simpa using this
theorem xor_div2 (x y : Nat) : (x ^^^ y) / 2 = (x / 2) ^^^ (y / 2) := by
  have := @Nat.xor_div_two_pow x y 1
  simpa using this

theorem t_xor (x y : Nat) : t (x ^^^ y) = t x ^^^ t y := by
  unfold t
  rw [xor_div2, xor_mod2]
  rcases Nat.mod_two_eq_zero_or_one x with hx | hx <;> rcases Nat.mod_two_eq_zero_or_one y with hy | hy <;> simp only [hx, hy] <;> simp
  · ac_rfl
  · ac_rfl
  · rw [show x / 2 ^^^ 3988292384 ^^^ (y / 2 ^^^ 3988292384) = x / 2 ^^^ y / 2 ^^^ (3988292384 ^^^ 3988292384) by ac_rfl]; simp
theorem tn_xor (k x y : Nat) : tn k (x ^^^ y) = tn k x ^^^ tn k y := by
  induction k generalizing x y with
  | zero => rfl
  | succ k ih => simp only [tn, t_xor, ih]
theorem t_double (x : Nat) : t (2 * x) = x := by
  unfold t; simp
theorem tn_shift (k x : Nat) : tn k (2 ^ k * x) = x := by
  induction k generalizing x with
  | zero => simp [tn]
  | succ k ih =>
    simp only [tn]
    rw [show 2 ^ (k + 1) * x = 2 * (2 ^ k * x) by rw [Nat.pow_succ]; ac_rfl, t_double, ih]
theorem tn_add (j k x : Nat) : tn (j + k) x = tn k (tn j x) := by
  induction j generalizing x with
  | zero => simp [tn]
  | succ j ih => rw [show j + 1 + k = (j + k) + 1 by omega]; simp only [tn, ih]
theorem t_zero : t 0 = 0 := by decide
theorem tn_zero (k : Nat) : tn k 0 = 0 := by
  induction k with
  | zero => rfl
  | succ k ih => simp only [tn, t_zero, ih]
theorem t_lt (x : Nat) (h : x < 4294967296) : t x < 4294967296 := by
  unfold t
  exact Nat.xor_lt_two_pow (n := 32) (by omega) (by split <;> omega)
theorem tn_lt (k x : Nat) (h : x < 4294967296) : tn k x < 4294967296 := by
  induction k generalizing x with
  | zero => exact h
  | succ k ih => exact ih _ (t_lt x h)

/-- The other way round. -/
def u (x : Nat) : Nat := if 2147483648 ≤ x then (2 * (x ^^^ 3988292384)) % 4294967296 + 1 else 2 * x
theorem testBit31 (x : Nat) (h : x < 4294967296) : x.testBit 31 = decide (2147483648 ≤ x) := by
  rw [Nat.testBit_eq_decide_div_mod_eq]
  by_cases hx : 2147483648 ≤ x
  · have : x / 2 ^ 31 = 1 := by omega
    simp [this, hx]
  · have : x / 2 ^ 31 = 0 := by omega
    simp [this, hx]
theorem xor_P_big (y : Nat) (h : y < 2147483648) : 2147483648 ≤ y ^^^ 3988292384 := by
  have hlt : y ^^^ 3988292384 < 4294967296 := Nat.xor_lt_two_pow (n := 32) (by omega) (by omega)
  have : (y ^^^ 3988292384).testBit 31 = true := by
    rw [Nat.testBit_xor, testBit31 y (by omega)]
    have : decide (2147483648 ≤ y) = false := by simpa using h
    rw [this]; decide
  rw [testBit31 _ hlt] at this
  simpa using this
theorem xor_P_small (y : Nat) (h : 2147483648 ≤ y) (h2 : y < 4294967296) : y ^^^ 3988292384 < 2147483648 := by
  have hlt : y ^^^ 3988292384 < 4294967296 := Nat.xor_lt_two_pow (n := 32) (by omega) (by omega)
  have : (y ^^^ 3988292384).testBit 31 = false := by
    rw [Nat.testBit_xor, testBit31 y (by omega)]
    have : decide (2147483648 ≤ y) = true := by simpa using h
    rw [this]; decide
  rw [testBit31 _ hlt] at this
  simpa using this
theorem u_t (x : Nat) (h : x < 4294967296) : u (t x) = x := by
  unfold t
  rcases Nat.mod_two_eq_zero_or_one x with hx | hx
  · simp only [hx]
    simp only [show ¬ ((0 : Nat) = 1) by omega, if_false, Nat.xor_zero]
    unfold u
    rw [if_neg (by omega)]; omega
  · simp only [hx, if_true]
    have := xor_P_big (x / 2) (by omega)
    unfold u
    rw [if_pos this, Nat.xor_assoc, Nat.xor_self, Nat.xor_zero]; omega
theorem t_u (x : Nat) (h : x < 4294967296) : t (u x) = x := by
  unfold u
  split
  · rename_i hx
    have := xor_P_small x hx h
    rw [Nat.mod_eq_of_lt (by omega)]
    unfold t
    rw [show (2 * (x ^^^ 3988292384) + 1) / 2 = x ^^^ 3988292384 by omega, show (2 * (x ^^^ 3988292384) + 1) % 2 = 1 by omega]
    simp only [if_true]
    rw [Nat.xor_assoc, Nat.xor_self, Nat.xor_zero]
  · exact t_double x
theorem u_lt (x : Nat) (h : x < 4294967296) : u x < 4294967296 := by
  unfold u; split <;> omega
theorem t_inj (x y : Nat) (hx : x < 4294967296) (hy : y < 4294967296) (h : t x = t y) : x = y := by
  rw [← u_t x hx, h, u_t y hy]
def un : Nat → Nat → Nat
  | 0, x => x
  | k + 1, x => un k (u x)
theorem un_lt (k x : Nat) (h : x < 4294967296) : un k x < 4294967296 := by
  induction k generalizing x with
  | zero => exact h
  | succ k ih => exact ih _ (u_lt x h)
theorem un_succ (k x : Nat) : un (k + 1) x = u (un k x) := by
  induction k generalizing x with
  | zero => rfl
  | succ k ih => rw [un, ih]; rfl
theorem tn_succ (k x : Nat) : tn (k + 1) x = t (tn k x) := by
  induction k generalizing x with
  | zero => rfl
  | succ k ih => rw [tn, ih]; rfl
theorem un_tn (k x : Nat) (h : x < 4294967296) : un k (tn k x) = x := by
  induction k generalizing x with
  | zero => rfl
  | succ k ih => rw [un_succ, tn, ih _ (t_lt x h), u_t x h]
theorem tn_un (k x : Nat) (h : x < 4294967296) : tn k (un k x) = x := by
  induction k generalizing x with
  | zero => rfl
  | succ k ih => rw [tn_succ, un, ih _ (u_lt x h), t_u x h]
theorem tn_inj (k x y : Nat) (hx : x < 4294967296) (hy : y < 4294967296) (h : tn k x = tn k y) : x = y := by
  rw [← un_tn k x hx, h, un_tn k y hy]

/-! ### Bytes -/
/-- A byte is taken in. -/
def tk (s c : Nat) : Nat := tn 8 (s ^^^ c)
/-- The state behind some bytes. -/
def run (s : Nat) : List Nat → Nat
  | [] => s
  | c :: l => run (tk s c) l
/-- On's answer. -/
def on (s : Nat) (l : List Nat) : Nat := 4294967295 ^^^ run (4294967295 ^^^ s) l

theorem run_append (s : Nat) (a b : List Nat) : run s (a ++ b) = run (run s a) b := by
  induction a generalizing s with
  | nil => rfl
  | cons c a ih => simp only [List.cons_append, run, ih]
theorem on_append (s : Nat) (a b : List Nat) : on s (a ++ b) = on (on s a) b := by
  unfold on
  rw [run_append, ← Nat.xor_assoc, Nat.xor_self, Nat.zero_xor]
def B (l : List Nat) : Prop := ∀ c ∈ l, c < 256
theorem tk_lt (s c : Nat) (hs : s < 4294967296) (hc : c < 256) : tk s c < 4294967296 :=
  tn_lt _ _ (Nat.xor_lt_two_pow (n := 32) (by omega) (by omega))
theorem run_lt (s : Nat) (l : List Nat) (hs : s < 4294967296) (hl : B l) : run s l < 4294967296 := by
  induction l generalizing s with
  | nil => exact hs
  | cons c l ih => exact ih _ (tk_lt s c hs (hl c (by simp))) (fun d hd => hl d (by simp [hd]))
theorem not_lt (s : Nat) (hs : s < 4294967296) : 4294967295 ^^^ s < 4294967296 := Nat.xor_lt_two_pow (n := 32) (by omega) (by omega)
theorem on_lt (s : Nat) (l : List Nat) (hs : s < 4294967296) (hl : B l) : on s l < 4294967296 :=
  not_lt _ (run_lt _ _ (not_lt s hs) hl)
theorem not_not (s : Nat) : 4294967295 ^^^ (4294967295 ^^^ s) = s := by rw [← Nat.xor_assoc, Nat.xor_self, Nat.zero_xor]

/-- The bytes as one number, the first one lowest. -/
def word : List Nat → Nat
  | [] => 0
  | c :: l => c + 256 * word l
theorem word_lt (l : List Nat) (hl : B l) : word l < 2 ^ (8 * l.length) := by
  induction l with
  | nil => simp [word]
  | cons c l ih =>
    have h1 := ih (fun d hd => hl d (by simp [hd]))
    have h2 := hl c (by simp)
    simp only [word, List.length_cons]
    rw [show 8 * (l.length + 1) = 8 * l.length + 8 by omega, Nat.pow_add]
    omega
theorem xor_add (c x : Nat) (hc : c < 256) : c + 256 * x = (256 * x) ^^^ c := by
  have h1 : 256 * x + c = 2 ^ 8 * x + c := by simp
  rw [Nat.add_comm, h1, Nat.two_pow_add_eq_or_of_lt (by omega)]
  apply Nat.eq_of_testBit_eq
  intro i
  rw [Nat.testBit_or, Nat.testBit_xor]
  by_cases hi : i < 8
  · have : (2 ^ 8 * x).testBit i = false := by
      rw [Nat.testBit_two_pow_mul]; simp; omega
    rw [this]; simp
  · have : c.testBit i = false := Nat.testBit_lt_two_pow (Nat.lt_of_lt_of_le hc (show 2 ^ 8 ≤ 2 ^ i from Nat.pow_le_pow_right (by omega) (by omega)))
    rw [this]; simp
/-- Behind some bytes: the whole word is laid over the state, and as many bits fall out. -/
theorem run_word (l : List Nat) (hl : B l) (s : Nat) : run s l = tn (8 * l.length) (s ^^^ word l) := by
  induction l generalizing s with
  | nil => simp [run, word, tn]
  | cons c l ih =>
    simp only [run, word, List.length_cons]
    rw [ih (fun d hd => hl d (by simp [hd]))]
    rw [show 8 * (l.length + 1) = 8 + 8 * l.length by omega, tn_add]
    congr 1
    rw [xor_add c _ (hl c (by simp)), show s ^^^ (256 * word l ^^^ c) = (s ^^^ c) ^^^ (2 ^ 8 * word l) by simp; ac_rfl, tn_xor, tn_shift]
    rfl

/-! ### What the statements need -/
/-- The sum ahead. -/
def back (s : Nat) : List Nat → Nat
  | [] => s
  | c :: l => un 8 (back s l) ^^^ c
theorem back_lt (s : Nat) (l : List Nat) (hs : s < 4294967296) (hl : B l) : back s l < 4294967296 := by
  induction l with
  | nil => exact hs
  | cons c l ih =>
    have hc := hl c (by simp)
    exact Nat.xor_lt_two_pow (n := 32) (un_lt 8 _ (ih (fun d hd => hl d (by simp [hd])))) (by omega)
theorem back_run (s : Nat) (l : List Nat) (hs : s < 4294967296) (hl : B l) : back (run s l) l = s := by
  induction l generalizing s with
  | nil => rfl
  | cons c l ih =>
    have hc := hl c (by simp)
    simp only [run, back]
    rw [ih _ (tk_lt s c hs hc) (fun d hd => hl d (by simp [hd]))]
    unfold tk
    rw [un_tn _ _ (Nat.xor_lt_two_pow (n := 32) (by omega) (by omega)), Nat.xor_assoc, Nat.xor_self, Nat.xor_zero]
theorem run_back (s : Nat) (l : List Nat) (hs : s < 4294967296) (hl : B l) : run (back s l) l = s := by
  induction l generalizing s with
  | nil => rfl
  | cons c l ih =>
    have hc := hl c (by simp)
    have hl' : B l := fun d hd => hl d (by simp [hd])
    simp only [run, back]
    unfold tk
    rw [Nat.xor_assoc, Nat.xor_self, Nat.xor_zero, tn_un _ _ (back_lt s l hs hl'), ih s hs hl']
/-- ahead's answer. -/
def ahead (s : Nat) (l : List Nat) : Nat := 4294967295 ^^^ back (4294967295 ^^^ s) l
theorem ahead_on (s : Nat) (l : List Nat) (hs : s < 4294967296) (hl : B l) : ahead (on s l) l = s := by
  unfold ahead on
  rw [not_not, back_run _ _ (not_lt s hs) hl, not_not]
theorem on_ahead (s : Nat) (l : List Nat) (hs : s < 4294967296) (hl : B l) : on (ahead s l) l = s := by
  unfold ahead on
  rw [not_not, run_back _ _ (not_lt s hs) hl, not_not]
theorem on_inj (s r : Nat) (l : List Nat) (hs : s < 4294967296) (hr : r < 4294967296) (hl : B l) (h : on s l = on r l) : s = r := by
  rw [← ahead_on s l hs hl, h, ahead_on r l hr hl]

/-- A number's four bytes. -/
def four (n : Nat) : List Nat := [n % 256, n / 256 % 256, n / 65536 % 256, n / 16777216 % 256]
theorem four_B (n : Nat) : B (four n) := by
  intro c hc
  simp only [four, List.mem_cons, List.not_mem_nil, or_false] at hc
  omega
theorem word_four (n : Nat) (h : n < 4294967296) : word (four n) = n := by
  simp only [four, word]
  omega
theorem on_four (s n : Nat) (hn : n < 4294967296) : on s (four n) = 4294967295 ^^^ tn 32 ((4294967295 ^^^ s) ^^^ n) := by
  unfold on
  rw [run_word _ (four_B n), word_four n hn]
  rfl
theorem residue (s : Nat) (h : s < 4294967296) : on s (four s) = 558161692 := by
  rw [on_four s s h, Nat.xor_assoc, Nat.xor_self, Nat.xor_zero]
  decide +kernel
theorem on_four_inj (s m n : Nat) (hs : s < 4294967296) (hm : m < 4294967296) (hn : n < 4294967296) (h : on s (four m) = on s (four n)) : m = n := by
  rw [on_four s m hm, on_four s n hn] at h
  have h2 : tn 32 ((4294967295 ^^^ s) ^^^ m) = tn 32 ((4294967295 ^^^ s) ^^^ n) := by
    rw [← not_not (tn 32 ((4294967295 ^^^ s) ^^^ m)), h, not_not]
  have h3 := tn_inj 32 _ _ (Nat.xor_lt_two_pow (n := 32) (not_lt s hs) (by omega)) (Nat.xor_lt_two_pow (n := 32) (not_lt s hs) (by omega)) h2
  have h4 : (4294967295 ^^^ s) ^^^ ((4294967295 ^^^ s) ^^^ m) = (4294967295 ^^^ s) ^^^ ((4294967295 ^^^ s) ^^^ n) := by rw [h3]
  rwa [← Nat.xor_assoc, Nat.xor_self, Nat.zero_xor, ← Nat.xor_assoc, Nat.xor_self, Nat.zero_xor] at h4
/-- The whole's sum is the residue just if the last four are the sum ahead. -/
theorem residue_iff (s n : Nat) (hs : s < 4294967296) (hn : n < 4294967296) : on s (four n) = 558161692 ↔ n = s := by
  constructor
  · intro h
    exact on_four_inj s n s hs hn hs (by rw [h, residue s hs])
  · rintro rfl
    exact residue n hs
theorem reach (s w : Nat) (hs : s < 4294967296) (hw : w < 4294967296) : on s (four (s ^^^ ahead w (four 0))) = w := by
  have ha : ahead w (four 0) < 4294967296 := not_lt _ (back_lt _ _ (not_lt w hw) (four_B 0))
  have hn : s ^^^ ahead w (four 0) < 4294967296 := Nat.xor_lt_two_pow (n := 32) (by omega) ha
  rw [on_four _ _ hn]
  have h := on_ahead w (four 0) hw (four_B 0)
  rw [on_four _ _ (by omega), Nat.xor_zero] at h
  rw [show 4294967295 ^^^ s ^^^ (s ^^^ ahead w (four 0)) = 4294967295 ^^^ ahead w (four 0) ^^^ (s ^^^ s) by ac_rfl, Nat.xor_self, Nat.xor_zero]
  exact h

/-! ### Bits that are turned -/
def lay : List Nat → List Nat → List Nat
  | [], l => l
  | _, [] => []
  | d :: ds, c :: l => (c ^^^ d) :: lay ds l
theorem run_lay (ds l : List Nat) (s r : Nat) (h : ds.length = l.length) : run (s ^^^ r) (lay ds l) = run s l ^^^ run r ds := by
  induction l generalizing ds s r with
  | nil =>
    have : ds = [] := List.length_eq_zero_iff.mp h
    subst this; rfl
  | cons c l ih =>
    cases ds with
    | nil => simp at h
    | cons d ds =>
      simp only [lay, run]
      rw [← ih ds _ _ (by simpa using h)]
      congr 1
      unfold tk
      rw [← tn_xor]
      congr 1
      ac_rfl
/-- Up to 32 bits, moved up by fewer than eight places, over as many bytes as there are: something is left if something was turned. -/
theorem word_burst (n k m : Nat) (hn : n < 4294967296) (hk : k < 8) (hm : 0 < m) : tn (8 * m) ((n * 2 ^ k) % 2 ^ (8 * m)) = 0 → (n * 2 ^ k) % 2 ^ (8 * m) = 0 := by
  intro h
  have e : (n * 2 ^ k) % 2 ^ (8 * m) = 2 ^ k * (n % 2 ^ (8 * m - k)) := by
    rw [show 2 ^ (8 * m) = 2 ^ k * 2 ^ (8 * m - k) by rw [← Nat.pow_add]; congr 1; omega, Nat.mul_comm n, Nat.mul_mod_mul_left]
  rw [e] at h ⊢
  rw [show 8 * m = k + (8 * m - k) by omega, tn_add, tn_shift] at h
  rw [show k + (8 * m - k) - k = 8 * m - k by omega] at h
  have hlt : n % 2 ^ (8 * m - k) < 4294967296 := Nat.lt_of_le_of_lt (Nat.mod_le _ _) hn
  have := tn_inj (8 * m - k) _ 0 hlt (by omega) (by rw [h, tn_zero])
  rw [this]; simp
end Go.Proofs.Ytkndghbognhocaa.Crc
namespace Go.Proofs.Ytkndghbognhocaa.Pure
set_option linter.unusedVariables false
set_option linter.unusedSimpArgs false
open Go.RowKit Go.Proofs.Ytkndghbognhocaa.X Go.Proofs.YtkndghbognhocaaW.PrintWords Go.Proofs.YtkndghbognhocaaW.PrintLast Go.Proofs.YtkndghbognhocaaW.PrintMore
theorem eq_loop (a b : List Int) (hab : a.length = b.length) (hn : a.length ≤ 9223372036854775800) (d : Nat) : ∀ (i : Nat), i + d = a.length →
    Ev (fun k => incunableref00_EqBytes.l0 k a b (i : Int)) (decide (a.drop i = b.drop i)) := by
  induction d with
  | zero =>
    intro i hi
    refine Ev.step (f := fun _ => some (decide (a.drop i = b.drop i))) (fun k => ?_) (Ev.now _)
    simp only [incunableref00_EqBytes.l0]
    rw [if_neg (by omega), List.drop_eq_nil_of_le (by omega), List.drop_eq_nil_of_le (by omega)]
    simp
  | succ d ih =>
    intro i hi
    have ha : i < a.length := by omega
    have hb : i < b.length := by omega
    have e : ∀ k, incunableref00_EqBytes.l0 (k + 1) a b (i : Int) = if a[i] = b[i] then incunableref00_EqBytes.l0 k a b ((i + 1 : Nat) : Int) else some false := fun k => by
      simp only [incunableref00_EqBytes.l0]
      rw [if_pos (by omega), if_pos (by omega), if_pos (by omega), rd_at a i ha, rd_at b i hb, w64 (by omega) (by omega)]; rfl
    refine Ev.step e ?_
    rw [List.drop_eq_getElem_cons ha, List.drop_eq_getElem_cons hb]
    by_cases h : a[i] = b[i]
    · simp only [if_pos h, List.cons.injEq, h, true_and]
      exact ih (i + 1) (by omega)
    · simp only [if_neg h, List.cons.injEq, h, false_and]
      exact Ev.now _
theorem eq_ev (a b : List Int) (hn : a.length ≤ 9223372036854775800) : Ev (fun k => incunableref00_EqBytes.f k a b) (decide (a = b)) := by
  unfold incunableref00_EqBytes.f
  by_cases h : a.length = b.length
  · simp only [if_pos (show (a.length : Int) = (b.length : Int) by omega)]
    have := eq_loop a b h hn a.length 0 (by omega)
    simpa using this
  · simp only [if_neg (show ¬ (a.length : Int) = (b.length : Int) by omega)]
    rw [show decide (a = b) = false from decide_eq_false (fun e => h (by rw [e]))]
    exact Ev.now _
theorem same_ev (a b : List Int) (h : a = b) (hn : a.length ≤ 9223372036854775800) : Ev (fun k => incunableref00_EqBytes.f k a b) true := by
  have := eq_ev a b hn
  rwa [decide_eq_true h] at this
theorem copy_some (l : List Int) (h : l.length < 225179981368000) : incunableref00_CopyBytes.f l = some l := by
  unfold incunableref00_CopyBytes.f
  rw [if_pos (by simp; omega)]; simp

def nat (l : List Int) : List Nat := l.map Int.toNat
theorem nat_B {l : List Int} (h : BI l) : Crc.B (nat l) := by
  intro c hc
  obtain ⟨x, hx, rfl⟩ := List.mem_map.1 hc
  have := h x hx
  omega
theorem nat_append (a b : List Int) : nat (a ++ b) = nat a ++ nat b := by simp [nat]
theorem rd_nat {l : List Int} (h : BI l) (i : Nat) (hi : i < l.length) : rd l (i : Int) = (((nat l)[i]'(by simpa [nat] using hi) : Nat) : Int) ∧ (nat l)[i]'(by simpa [nat] using hi) < 256 := by
  have hx := h l[i] (List.getElem_mem hi)
  simp only [rd, Int.toNat_natCast, List.getD_eq_getElem?_getD, List.getElem?_eq_getElem hi, Option.getD_some, nat, List.getElem_map]
  omega
theorem wf_u32 {x : Int} (h : (Lit.int .u32 x).wf = true) : 0 ≤ x ∧ x < 4294967296 := by
  simp only [Lit.wf, Bool.and_eq_true, decide_eq_true_eq] at h
  have h1 : IntKind.u32.min = 0 := rfl
  have h2 : IntKind.u32.max = 4294967295 := rfl
  omega
theorem bit_step (x : Nat) (hx : x < 4294967296) :
    (Go.bits .and .u32 (x : Int) 1 = 1 ↔ x % 2 = 1) ∧ Go.bits .xor .u32 ((x : Int) / 2) 3988292384 = ((x / 2 ^^^ 3988292384 : Nat) : Int) := by
  constructor
  · rw [u32_and (x : Int) 1 (by omega) (by omega) (by omega) (by omega)]
    simp only [Int.toNat_natCast, show (1 : Int).toNat = 1 from rfl, Nat.and_one_is_mod]
    omega
  · rw [show (x : Int) / 2 = ((x / 2 : Nat) : Int) by omega]
    exact u32_xor_nat (x / 2) 3988292384 (by omega) (by omega)
theorem t_of (x : Nat) : Crc.t x = if x % 2 = 1 then x / 2 ^^^ 3988292384 else x / 2 := by
  unfold Crc.t; split <;> simp
theorem roll_loop (d : Nat) : ∀ (i x : Nat), i + d = 8 → x < 4294967296 → Ev (fun k => crc_roll.l0 k (x : Int) (i : Int)) ((Crc.tn d x : Nat) : Int) := by
  induction d with
  | zero =>
    intro i x hi hx
    refine Ev.step (f := fun _ => some (x : Int)) (fun k => ?_) (Ev.now _)
    simp only [crc_roll.l0]
    rw [if_neg (by omega)]
  | succ d ih =>
    intro i x hi hx
    obtain ⟨h1, h2⟩ := bit_step x hx
    refine Ev.step (f := fun k => crc_roll.l0 k ((Crc.t x : Nat) : Int) ((i + 1 : Nat) : Int)) (fun k => ?_) (ih (i + 1) (Crc.t x) (by omega) (Crc.t_lt x hx))
    simp only [crc_roll.l0]
    rw [if_pos (by omega), h2, w64 (by omega) (by omega), t_of]
    by_cases hb : x % 2 = 1
    · rw [if_pos (h1.2 hb), if_pos hb]; rfl
    · rw [if_neg (fun h => hb (h1.1 h)), if_neg hb, show (x : Int) / 2 = ((x / 2 : Nat) : Int) by omega]; rfl
theorem roll_ev (c : Nat) (hc : c < 256) : Ev (fun k => crc_roll.f k (c : Int)) ((Crc.tn 8 c : Nat) : Int) := by
  unfold crc_roll.f
  rw [show ((c : Int) % 4294967296) = (c : Int) by omega]
  exact roll_loop 8 0 c (by omega) (by omega)
/-- Eight bits at once: the byte that falls out, and what is left. -/
theorem tk_parts (s c : Nat) (hc : c < 256) : Crc.tk s c = s / 256 ^^^ Crc.tn 8 ((s % 256) ^^^ c) := by
  unfold Crc.tk
  have h := Crc.xor_add (s % 256) (s / 256) (by omega)
  rw [show s % 256 + 256 * (s / 256) = s by omega] at h
  calc Crc.tn 8 (s ^^^ c) = Crc.tn 8 ((2 ^ 8 * (s / 256)) ^^^ ((s % 256) ^^^ c)) := by
        congr 1
        conv => lhs; rw [h]
        rw [Nat.xor_assoc]
    _ = _ := by rw [Crc.tn_xor, Crc.tn_shift]
theorem on_loop (l : List Int) (hl : BI l) (hn : l.length ≤ 9223372036854775800) (d : Nat) : ∀ (i s : Nat), i + d = l.length → s < 4294967296 →
    Ev (fun k => crc_On.l0 k (s : Int) l (i : Int)) ((4294967295 ^^^ Crc.run s ((nat l).drop i) : Nat) : Int) := by
  induction d with
  | zero =>
    intro i s hi hs
    refine Ev.step (f := fun _ => some ((4294967295 ^^^ Crc.run s ((nat l).drop i) : Nat) : Int)) (fun k => ?_) (Ev.now _)
    simp only [crc_On.l0]
    rw [if_neg (by omega), u32_xor _ _ (by omega) (by omega) (by omega) (by omega), List.drop_eq_nil_of_le (by simp [nat]; omega)]
    simp [Crc.run]
  | succ d ih =>
    intro i s hi hs
    have hlt : i < l.length := by omega
    obtain ⟨h1, h2⟩ := rd_nat hl i hlt
    have hlt' : i < (nat l).length := by simpa [nat] using hlt
    generalize hc : (nat l)[i]'hlt' = c at h1 h2
    have hx : Go.bits .xor .u8 ((s : Int) % 256) (c : Int) = ((s % 256 ^^^ c : Nat) : Int) := by
      rw [show (s : Int) % 256 = ((s % 256 : Nat) : Int) by omega]
      exact u8_xor_nat _ _ (by omega) (by omega)
    have hxl : s % 256 ^^^ c < 256 := Nat.xor_lt_two_pow (n := 8) (by omega) (by omega)
    have htn : Crc.tn 8 (s % 256 ^^^ c) < 4294967296 := Crc.tn_lt _ _ (by omega)
    have hy : Go.bits .xor .u32 ((s : Int) / 256) ((Crc.tn 8 (s % 256 ^^^ c) : Nat) : Int) = ((Crc.tk s c : Nat) : Int) := by
      rw [show (s : Int) / 256 = ((s / 256 : Nat) : Int) by omega, tk_parts s c h2]
      exact u32_xor_nat _ _ (by omega) (by omega)
    refine Ev.step (f := fun k => (crc_roll.f k ((s % 256 ^^^ c : Nat) : Int)).bind fun t => crc_On.l0 k (Go.bits .xor .u32 ((s : Int) / 256) t) l ((i + 1 : Nat) : Int)) (fun k => ?_) ?_
    · simp only [crc_On.l0]
      rw [if_pos (by omega), if_pos (by omega), h1, hx, w64 (by omega) (by omega)]; rfl
    · refine Ev.bind (f := fun k t => crc_On.l0 k (Go.bits .xor .u32 ((s : Int) / 256) t) l ((i + 1 : Nat) : Int)) (roll_ev _ hxl) ?_
      simp only [hy]
      have := ih (i + 1) (Crc.tk s c) (by omega) (Crc.tk_lt s c hs h2)
      rw [List.drop_eq_getElem_cons hlt', hc]
      exact this
/-- On's answer. -/
def onI (a : Int) (l : List Int) : Int := ((Crc.on a.toNat (nat l) : Nat) : Int)
theorem onI_range (a : Int) (l : List Int) (h0 : 0 ≤ a) (h1 : a < 4294967296) (hl : BI l) : 0 ≤ onI a l ∧ onI a l < 4294967296 := by
  have := Crc.on_lt a.toNat (nat l) (by omega) (nat_B hl)
  unfold onI; omega
theorem on_ev (a : Int) (l : List Int) (h0 : 0 ≤ a) (h1 : a < 4294967296) (hl : BI l) (hn : l.length ≤ 9223372036854775800) : Ev (fun k => crc_On.f k a l) (onI a l) := by
  obtain ⟨s, rfl⟩ := Int.eq_ofNat_of_zero_le h0
  unfold crc_On.f onI Crc.on
  have := on_loop l hl hn l.length 0 (4294967295 ^^^ s) (by omega) (Crc.not_lt s (by omega))
  rw [u32_xor _ _ (by omega) (by omega) (by omega) (by omega)]
  simpa using this
theorem of_ev (l : List Int) (hl : BI l) (hn : l.length ≤ 9223372036854775800) : Ev (fun k => crc_Of.f k l) (onI 0 l) := by
  unfold crc_Of.f
  exact Ev.bind (f := fun _ t => some t) (on_ev 0 l (by omega) (by omega) hl hn) (Ev.now _)
theorem onI_append (a : Int) (x y : List Int) (h0 : 0 ≤ a) (h1 : a < 4294967296) (hx : BI x) : onI (onI a x) y = onI a (x ++ y) := by
  unfold onI
  rw [nat_append, Crc.on_append, Int.toNat_natCast]
theorem rtk_loop (d : Nat) : ∀ (i x : Nat), i + d = 8 → x < 4294967296 → Ev (fun k => incunableref02_take.l0 k (x : Int) (i : Int)) ((Crc.tn d x : Nat) : Int) := by
  induction d with
  | zero =>
    intro i x hi hx
    refine Ev.step (f := fun _ => some (x : Int)) (fun k => ?_) (Ev.now _)
    simp only [incunableref02_take.l0]
    rw [if_neg (by omega)]
  | succ d ih =>
    intro i x hi hx
    obtain ⟨h1, h2⟩ := bit_step x hx
    refine Ev.step (f := fun k => incunableref02_take.l0 k ((Crc.t x : Nat) : Int) ((i + 1 : Nat) : Int)) (fun k => ?_) (ih (i + 1) (Crc.t x) (by omega) (Crc.t_lt x hx))
    simp only [incunableref02_take.l0]
    rw [if_pos (by omega), h2, w64 (by omega) (by omega), t_of]
    by_cases hb : x % 2 = 1
    · rw [if_pos (h1.2 hb), if_pos hb]; rfl
    · rw [if_neg (fun h => hb (h1.1 h)), if_neg hb, show (x : Int) / 2 = ((x / 2 : Nat) : Int) by omega]; rfl
theorem rtk_ev (s c : Nat) (hs : s < 4294967296) (hc : c < 256) : Ev (fun k => incunableref02_take.f k (s : Int) (c : Int)) ((Crc.tk s c : Nat) : Int) := by
  unfold incunableref02_take.f
  have hx : s ^^^ c < 4294967296 := Nat.xor_lt_two_pow (n := 32) (by omega) (by omega)
  rw [show ((c : Int) % 4294967296) = (c : Int) by omega, u32_xor_nat _ _ hs (by omega)]
  exact rtk_loop 8 0 _ (by omega) hx
theorem ron_loop (l : List Int) (hl : BI l) (hn : l.length ≤ 9223372036854775800) (d : Nat) : ∀ (i s : Nat), i + d = l.length → s < 4294967296 →
    Ev (fun k => incunableref02_On.l0 k (s : Int) l (i : Int)) ((4294967295 ^^^ Crc.run s ((nat l).drop i) : Nat) : Int) := by
  induction d with
  | zero =>
    intro i s hi hs
    refine Ev.step (f := fun _ => some ((4294967295 ^^^ Crc.run s ((nat l).drop i) : Nat) : Int)) (fun k => ?_) (Ev.now _)
    simp only [incunableref02_On.l0]
    rw [if_neg (by omega), u32_xor _ _ (by omega) (by omega) (by omega) (by omega), List.drop_eq_nil_of_le (by simp [nat]; omega)]
    simp [Crc.run]
  | succ d ih =>
    intro i s hi hs
    have hlt : i < l.length := by omega
    obtain ⟨h1, h2⟩ := rd_nat hl i hlt
    have hlt' : i < (nat l).length := by simpa [nat] using hlt
    generalize hc : (nat l)[i]'hlt' = c at h1 h2
    refine Ev.step (f := fun k => (incunableref02_take.f k (s : Int) (c : Int)).bind fun t => incunableref02_On.l0 k t l ((i + 1 : Nat) : Int)) (fun k => ?_) ?_
    · simp only [incunableref02_On.l0]
      rw [if_pos (by omega), if_pos (by omega), h1, w64 (by omega) (by omega)]; rfl
    · refine Ev.bind (f := fun k t => incunableref02_On.l0 k t l ((i + 1 : Nat) : Int)) (rtk_ev s c hs h2) ?_
      have := ih (i + 1) (Crc.tk s c) (by omega) (Crc.tk_lt s c hs h2)
      rw [List.drop_eq_getElem_cons hlt', hc]
      exact this
theorem ron_ev (a : Int) (l : List Int) (h0 : 0 ≤ a) (h1 : a < 4294967296) (hl : BI l) (hn : l.length ≤ 9223372036854775800) : Ev (fun k => incunableref02_On.f k a l) (onI a l) := by
  obtain ⟨s, rfl⟩ := Int.eq_ofNat_of_zero_le h0
  unfold incunableref02_On.f onI Crc.on
  have := ron_loop l hl hn l.length 0 (4294967295 ^^^ s) (by omega) (Crc.not_lt s (by omega))
  rw [u32_xor _ _ (by omega) (by omega) (by omega) (by omega)]
  simpa using this
theorem rof_ev (l : List Int) (hl : BI l) (hn : l.length ≤ 9223372036854775800) : Ev (fun k => incunableref02_Of.f k l) (onI 0 l) := by
  unfold incunableref02_Of.f
  exact Ev.bind (f := fun _ t => some t) (ron_ev 0 l (by omega) (by omega) hl hn) (Ev.now _)

/-! ### bytes compared and copied -/

theorem rd_row (l : List (List Int)) (i : Nat) (h : i < l.length) : rd_L1 l (i : Int) = l[i] := by
  unfold rd_L1
  rw [Int.toNat_natCast, List.getD_eq_getElem?_getD, List.getElem?_eq_getElem h, Option.getD_some]
theorem flat_succ (l : List (List Int)) (i : Nat) (h : i < l.length) : (l.take (i + 1)).flatten = (l.take i).flatten ++ l[i] := by
  rw [List.take_succ_eq_append_getElem h, List.flatten_append]
  simp
theorem flat_le (l : List (List Int)) (i : Nat) : (l.take i).flatten.length ≤ l.flatten.length := by
  have : l.flatten = (l.take i).flatten ++ (l.drop i).flatten := by rw [← List.flatten_append, List.take_append_drop]
  rw [this, List.length_append]; omega
theorem row_le (l : List (List Int)) (i : Nat) (h : i < l.length) : l[i].length ≤ l.flatten.length := by
  have h1 := flat_le l (i + 1)
  rw [flat_succ l i h, List.length_append] at h1
  omega
theorem concat_l1 (l : List (List Int)) (hn : l.length ≤ 1048576) (hs : l.flatten.length ≤ 1048576) (d : Nat) : ∀ i : Nat, i + d = l.length → Ev (fun k => slices_Concat_byte_byte.l1 k (l.take i).flatten l (l.length : Int) (i : Int)) l.flatten := by
  induction d with
  | zero =>
    intro i hi
    refine Ev.step (f := fun k => _) (fun k => by simp only [slices_Concat_byte_byte.l1]; rfl) ?_
    refine ev_neg (by omega) ?_
    rw [List.take_of_length_le (by omega)]
    exact Ev.now _
  | succ d ih =>
    intro i hi
    refine Ev.step (f := fun k => _) (fun k => by simp only [slices_Concat_byte_byte.l1]; rfl) ?_
    have h1 := flat_le l i
    have h2 := row_le l i (by omega)
    rw [rd_row l i (by omega)]
    refine ev_pos (by omega) (ev_pos (by omega) (ev_pos (by omega) (ev_pos (by omega) ?_)))
    rw [← flat_succ l i (by omega), w64 (by omega) (by omega)]
    exact ih (i + 1) (by omega)
theorem concat_l0 (l : List (List Int)) (hn : l.length ≤ 1048576) (hs : l.flatten.length ≤ 1048576) (d : Nat) : ∀ i : Nat, i + d = l.length → Ev (fun k => slices_Concat_byte_byte.l0 k l ((l.take i).flatten.length : Int) l (l.length : Int) (i : Int)) l.flatten := by
  induction d with
  | zero =>
    intro i hi
    refine Ev.step (f := fun k => _) (fun k => by simp only [slices_Concat_byte_byte.l0]; rfl) ?_
    have h1 := flat_le l i
    refine ev_neg (by omega) ?_
    refine ev_some (f := fun k t => _) (a := ([] : List Int)) (by unfold slices_Grow_byte_byte.f; rw [if_pos (by omega)]) ?_
    exact concat_l1 l hn hs l.length 0 (by omega)
  | succ d ih =>
    intro i hi
    refine Ev.step (f := fun k => _) (fun k => by simp only [slices_Concat_byte_byte.l0]; rfl) ?_
    have h1 := flat_le l i
    have h2 := row_le l i (by omega)
    rw [rd_row l i (by omega), w64 (x := (i : Int) + 1) (by omega) (by omega), w64 (by omega) (by omega)]
    refine ev_pos (by omega) (ev_pos (by omega) (ev_pos (by omega) (ev_neg (by omega) ?_)))
    have := ih (i + 1) (by omega)
    rw [flat_succ l i (by omega), List.length_append] at this
    exact_mod_cast this
theorem concat_ev (l : List (List Int)) (hn : l.length ≤ 1048576) (hs : l.flatten.length ≤ 1048576) : Ev (fun k => slices_Concat_byte_byte.f k l) l.flatten := concat_l0 l hn hs l.length 0 (by omega)
end Go.Proofs.Ytkndghbognhocaa.Pure
namespace Go.Proofs.Ytkndghbognhocaa.Pure
set_option linter.unusedVariables false
set_option linter.unusedSimpArgs false
open Go.RowKit Go.Proofs.Ytkndghbognhocaa.X Go.Proofs.YtkndghbognhocaaW.PrintWords Go.Proofs.YtkndghbognhocaaW.PrintLast Go.Proofs.YtkndghbognhocaaW.PrintMore
theorem str_inj (a b : List Int) (ha : BI a) (hb : BI b) (h : (strOfNums a).toList = (strOfNums b).toList) : a = b := by
  have back : ∀ l : List Int, BI l → ((strOfNums l).toList).map (fun b => (b.toNat : Int)) = l := by
    intro l hl
    rw [Go.Lib.strOfNums_toList]
    show (l.map _).map _ = l
    rw [List.map_map]
    conv => rhs; rw [← List.map_id l]
    apply List.map_congr_left
    intro x hx
    have := hl x hx
    simp only [Function.comp, id, UInt8.toNat_ofNat']
    omega
  rw [← back a ha, h, back b hb]
theorem str_eq (a b : List Int) (ha : BI a) (hb : BI b) : ((strOfNums a).toList == (strOfNums b).toList) = decide (a = b) := by
  by_cases h : a = b
  · subst h; simp
  · rw [decide_eq_false h, beq_eq_false_iff_ne]
    exact fun he => h (str_inj a b ha hb he)
theorem bytes_Equal_some (a b : List Int) (ha : BI a) (hb : BI b) : bytes_Equal.f a b = some (decide (a = b)) := by
  unfold bytes_Equal.f
  rw [str_eq a b ha hb]
/-- the four bytes of a sum, the lowest first -/
def crc4 (l : List Int) : List Int := [onI 0 l % 256, onI 0 l / 256 % 256, onI 0 l / 65536 % 256, onI 0 l / 16777216 % 256]
theorem crc4_length (l : List Int) : (crc4 l).length = 4 := rfl
theorem crc4_BI (l : List Int) : BI (crc4 l) := by
  intro x hx
  simp only [crc4, List.mem_cons, List.not_mem_nil, or_false] at hx
  rcases hx with rfl | rfl | rfl | rfl <;> omega
theorem sum_ev (l : List Int) (hl : BI l) (hn : l.length ≤ 9223372036854775800) : Ev (fun k => frame_sum.f k l) (crc4 l) := by
  unfold frame_sum.f
  exact Ev.bind (f := fun k t => _) (of_ev l hl hn) (Ev.now _)
theorem rsum_ev (l : List Int) (hl : BI l) (hn : l.length ≤ 9223372036854775800) : Ev (fun k => incunableref28_sum.f k l) (crc4 l) := by
  unfold incunableref28_sum.f
  exact Ev.bind (f := fun k t => _) (rof_ev l hl hn) (Ev.now _)
theorem or_hi (n x k : Nat) (hk : k ≤ 40) (hx : x < 2 ^ k) (hb : 2 ^ k * n + x < 2 ^ 63) : Go.bits .or .i64 ((2 ^ k * n : Nat) : Int) (x : Int) = ((2 ^ k * n + x : Nat) : Int) := by
  have hw : ∀ n : Int, 0 ≤ n → n < 2 ^ 63 → IntKind.i64.wrap n = n := fun n a b => by rw [IntKind.wrap_i64]; omega
  have hb := (bits_nat .i64 63 (by decide) hw (2 ^ k * n) x (by omega) (by omega)).2
  rw [hb, ← Nat.two_pow_add_eq_or_of_lt hx n]
/-- the number that three bytes tell -/
def num3 (a b c : Int) : Int := a * 65536 + b * 256 + c
theorem or3 (a b c : Int) (ha : 0 ≤ a ∧ a < 256) (hb : 0 ≤ b ∧ b < 256) (hc : 0 ≤ c ∧ c < 256) : Go.bits .or .i64 (Go.bits .or .i64 (a * 65536) (b * 256)) c = num3 a b c := by
  obtain ⟨a', rfl⟩ := Int.eq_ofNat_of_zero_le ha.1
  obtain ⟨b', rfl⟩ := Int.eq_ofNat_of_zero_le hb.1
  obtain ⟨c', rfl⟩ := Int.eq_ofNat_of_zero_le hc.1
  have h1 := or_hi a' (b' * 256) 16 (by omega) (by omega) (by omega)
  have h2 := or_hi (a' * 256 + b') c' 8 (by omega) (by omega) (by omega)
  rw [show (a' : Int) * 65536 = ((2 ^ 16 * a' : Nat) : Int) by omega, show (b' : Int) * 256 = ((b' * 256 : Nat) : Int) by omega, h1, show 2 ^ 16 * a' + b' * 256 = 2 ^ 8 * (a' * 256 + b') by omega, h2]
  unfold num3
  omega
theorem size_step (n c : Int) (h0 : 0 ≤ n) (h1 : n < 16777216) (hc : 0 ≤ c ∧ c < 256) : Go.bits .or .i64 (wrap64 (n * 256)) (wrap64 c) = n * 256 + c := by
  obtain ⟨n', rfl⟩ := Int.eq_ofNat_of_zero_le h0
  obtain ⟨c', rfl⟩ := Int.eq_ofNat_of_zero_le hc.1
  have h2 := or_hi n' c' 8 (by omega) (by omega) (by omega)
  rw [w64 (by omega) (by omega), w64 (by omega) (by omega), show (n' : Int) * 256 = ((2 ^ 8 * n' : Nat) : Int) by omega, h2]
  omega
theorem size_ev (a b c : Int) (h : BI [a, b, c]) : Ev (fun k => frame_size.f k [a, b, c]) (num3 a b c) := by
  have ha := h a (by simp)
  have hb := h b (by simp)
  have hc := h c (by simp)
  have e0 : Go.bits .or .i64 (wrap64 (0 * 256)) (wrap64 a) = a := by have := size_step 0 a (by omega) (by omega) ha; simpa using this
  have e1 := size_step a b ha.1 (by omega) hb
  have e2 := size_step (a * 256 + b) c (by omega) (by omega) hc
  have w1 : wrap64 (0 + 1) = 1 := (w64 (by omega) (by omega)).trans rfl
  have w2 : wrap64 (1 + 1) = 2 := (w64 (by omega) (by omega)).trans rfl
  have w3 : wrap64 (2 + 1) = 3 := (w64 (by omega) (by omega)).trans rfl
  show Ev (fun k => frame_size.l0 k 0 [a, b, c] 3 0) _
  refine Ev.step (f := fun k => frame_size.l0 k a [a, b, c] 3 1) (fun k => by simp only [frame_size.l0]; rw [if_pos (by decide), if_pos (by decide), if_pos (by simp), show rd [a, b, c] 0 = a from rfl, e0, w1]) ?_
  refine Ev.step (f := fun k => frame_size.l0 k (a * 256 + b) [a, b, c] 3 2) (fun k => by simp only [frame_size.l0]; rw [if_pos (by decide), if_pos (by decide), if_pos (by simp), show rd [a, b, c] 1 = b from rfl, e1, w2]) ?_
  refine Ev.step (f := fun k => frame_size.l0 k ((a * 256 + b) * 256 + c) [a, b, c] 3 3) (fun k => by simp only [frame_size.l0]; rw [if_pos (by decide), if_pos (by decide), if_pos (by simp), show rd [a, b, c] 2 = c from rfl, e2, w3]) ?_
  refine Ev.step (f := fun _ => some ((a * 256 + b) * 256 + c)) (fun k => by simp only [frame_size.l0]; rw [if_neg (by decide)]) ?_
  exact ev_eq (by unfold num3; omega) (Ev.now _)
theorem five (l : List Int) (h : 5 ≤ l.length) : ∃ a b c d e t, l = a :: b :: c :: d :: e :: t := by
  match l, h with
  | a :: b :: c :: d :: e :: t, _ => exact ⟨a, b, c, d, e, t, rfl⟩
/-- does a head begin at the first byte? -/
def beginsI (l : List Int) : Bool :=
  decide (l.take 2 = ([73, 81] : List Int).take l.length) && (decide (l.length < 9) || decide ((l.take 9).drop 5 = crc4 (l.take 5)) && decide (num3 (l.getD 2 0) (l.getD 3 0) (l.getD 4 0) ≤ 300000))
theorem magic_list (n : Nat) (hn : n ≤ 2) : ((⟨#[73, 81]⟩ : ByteArray).extract 0 n).toList = (strOfNums (([73, 81] : List Int).take n)).toList := by
  rcases n with _ | _ | _ | n
  · decide +kernel
  · decide +kernel
  · decide +kernel
  · omega
theorem begins_ev (l : List Int) (hl : BI l) (hn : l.length ≤ 9223372036854775800) : Ev (fun k => frame_begins.f k l) (beginsI l) := by
  have hM : mn (l.length : Int) 2 = ((min l.length 2 : Nat) : Int) := by unfold mn; split <;> omega
  have hmag : BI [73, 81] := BI_of _ (by decide)
  have hcmp : (strOfNums (l.take (min l.length 2))).toList = ((⟨#[73, 81]⟩ : ByteArray).extract 0 (min l.length 2)).toList ↔ l.take 2 = ([73, 81] : List Int).take l.length := by
    rw [magic_list _ (by omega)]
    have e1 : l.take (min l.length 2) = l.take 2 := by rw [Nat.min_comm, ← List.take_eq_take_min]
    have e2 : ([73, 81] : List Int).take (min l.length 2) = ([73, 81] : List Int).take l.length := by
      rcases Nat.lt_or_ge l.length 2 with h | h
      · rw [Nat.min_eq_left (by omega)]
      · rw [Nat.min_eq_right h, List.take_of_length_le (l := ([73, 81] : List Int)) (i := l.length) (by simpa using h)]; rfl
    rw [e1, e2]
    exact ⟨fun h => str_inj _ _ (BI_take hl 2) (BI_take hmag _) h, fun h => by rw [h]⟩
  unfold frame_begins.f beginsI
  simp only [hM, Int.toNat_natCast]
  refine ev_pos (by omega) (ev_pos (by omega) (ev_pos (by omega) ?_))
  by_cases h : l.take 2 = ([73, 81] : List Int).take l.length
  · refine ev_pos (hcmp.2 h) ?_
    rw [decide_eq_true h, Bool.true_and]
    by_cases h9 : l.length < 9
    · refine ev_pos (by omega) ?_
      rw [decide_eq_true h9, Bool.true_or]
      exact Ev.now _
    · refine ev_neg (by omega) (ev_pos (by omega) (ev_pos (by omega) (ev_pos (by omega) ?_)))
      rw [decide_eq_false h9, Bool.false_or]
      refine Ev.bind (f := fun k t => _) (sum_ev (l.take 5) (BI_take hl 5) (by rw [List.length_take]; omega)) ?_
      refine ev_some (bytes_Equal_some _ _ (BI_drop (BI_take hl 9) 5) (crc4_BI _)) ?_
      by_cases he : (l.take 9).drop 5 = crc4 (l.take 5)
      · rw [decide_eq_true he, Bool.true_and]
        refine ev_pos rfl (ev_pos (by omega) ?_)
        obtain ⟨a, b, c, d, e, t, rfl⟩ := five l (by omega)
        refine Ev.bind (f := fun k t => _) (size_ev c d e (fun x hx => hl x (by simp only [List.mem_cons, List.not_mem_nil, or_false] at hx ⊢; rcases hx with h | h | h <;> simp [h]))) ?_
        exact Ev.now _
      · rw [decide_eq_false he, Bool.false_and]
        exact ev_neg (by simp) (Ev.now _)
  · refine ev_neg (fun h2 => h (hcmp.1 h2)) ?_
    rw [decide_eq_false h, Bool.false_and]
    exact Ev.now _
theorem rd_getD (l : List Int) (i : Nat) (h : i < l.length) : rd l (i : Int) = l.getD i 0 := by
  rw [rd_at l i h, List.getD_eq_getElem?_getD, List.getElem?_eq_getElem h]; rfl
theorem rbegins_j (l : List Int) (hl : BI l) (hn : l.length ≤ 9223372036854775800) (x : Bool) : Ev (fun k => incunableref28_begins.j0 k l x) (!x && (decide (l.length < 9) || decide ((l.take 9).drop 5 = crc4 (l.take 5)) && decide (num3 (l.getD 2 0) (l.getD 3 0) (l.getD 4 0) ≤ 300000))) := by
  refine Ev.step (f := fun k => _) (fun k => by simp only [incunableref28_begins.j0]; rfl) ?_
  cases x with
  | true => exact ev_pos rfl (Ev.now _)
  | false =>
    refine ev_neg (by simp) ?_
    rw [Bool.not_false, Bool.true_and]
    by_cases h9 : l.length < 9
    · refine ev_pos (by omega) ?_
      rw [decide_eq_true h9, Bool.true_or]
      exact Ev.now _
    · refine ev_neg (by omega) (ev_pos (by omega) (ev_pos (by omega) (ev_pos (by omega) ?_)))
      rw [decide_eq_false h9, Bool.false_or]
      obtain ⟨a, b, c, d, e, t, rfl⟩ := five l (by omega)
      have hc := hl c (by simp)
      have hd := hl d (by simp)
      have he := hl e (by simp)
      have hor : Go.bits .or .i64 (Go.bits .or .i64 (wrap64 ((wrap64 (rd (a :: b :: c :: d :: e :: t) 2)) * 65536)) (wrap64 ((wrap64 (rd (a :: b :: c :: d :: e :: t) 3)) * 256))) (wrap64 (rd (a :: b :: c :: d :: e :: t) 4)) = num3 c d e := by
        rw [show rd (a :: b :: c :: d :: e :: t) 2 = c from rfl, show rd (a :: b :: c :: d :: e :: t) 3 = d from rfl, show rd (a :: b :: c :: d :: e :: t) 4 = e from rfl, w64 (x := c) (by omega) (by omega), w64 (x := d) (by omega) (by omega), w64 (x := e) (by omega) (by omega), w64 (by omega) (by omega), w64 (by omega) (by omega)]
        exact or3 c d e hc hd he
      simp only [hor]
      show Ev _ (_ && decide (num3 c d e ≤ 300000))
      by_cases hs : num3 c d e ≤ 300000
      · rw [decide_eq_true hs, Bool.and_true]
        refine ev_pos hs (ev_pos (by simp only [List.length_cons]; omega) ?_)
        refine Ev.bind (f := fun k t => _) (rsum_ev _ (BI_take hl 5) (by rw [List.length_take]; omega)) ?_
        refine ev_pos (by omega) (ev_pos (by simp only [List.length_cons] at h9 ⊢; omega) ?_)
        rw [str_eq _ _ (crc4_BI _) (BI_drop (BI_take hl 9) 5)]
        exact ev_eq (by rw [decide_eq_decide]; exact eq_comm) (Ev.now _)
      · rw [decide_eq_false hs, Bool.and_false]
        exact ev_neg hs (Ev.now _)
theorem rbegins_ev (l : List Int) (hl : BI l) (hn : l.length ≤ 9223372036854775800) : Ev (fun k => incunableref28_begins.f k l) (beginsI l) := by
  have hj := rbegins_j l hl hn
  unfold incunableref28_begins.f beginsI
  match l, hl, hn with
  | [], _, _ => exact ev_neg (by simp) (ev_neg (by simp) (hj false))
  | [a], _, _ =>
    refine ev_pos (by simp) (ev_pos (by simp) ?_)
    rw [show rd [a] 0 = a from rfl]
    by_cases ha : a = 73
    · refine ev_pos ha (ev_neg (by simp) ?_)
      refine ev_eq ?_ (hj false)
      subst ha
      rfl
    · refine ev_neg ha ?_
      refine ev_eq ?_ (hj true)
      rw [decide_eq_false (show ¬ [a].take 2 = ([73, 81] : List Int).take [a].length by simpa using ha), Bool.false_and]
      rfl
  | a :: b :: t, _, _ =>
    refine ev_pos (by simp only [List.length_cons]; omega) (ev_pos (by simp only [List.length_cons]; omega) ?_)
    rw [show rd (a :: b :: t) 0 = a from rfl, show rd (a :: b :: t) 1 = b from rfl]
    by_cases ha : a = 73
    · refine ev_pos ha (ev_pos (by simp only [List.length_cons]; omega) (ev_pos (by simp only [List.length_cons]; omega) ?_))
      refine ev_eq ?_ (hj (b != 81))
      subst ha
      congr 1
      by_cases hb : b = 81
      · subst hb; simp
      · rw [decide_eq_false (by simpa using hb)]; simp [hb]
    · refine ev_neg ha ?_
      refine ev_eq ?_ (hj true)
      rw [decide_eq_false (show ¬ (a :: b :: t).take 2 = ([73, 81] : List Int).take (a :: b :: t).length by simp [ha]), Bool.false_and]
      rfl
end Go.Proofs.Ytkndghbognhocaa.Pure
namespace Go.Proofs.Ytkndghbognhocaa.Pure
set_option linter.unusedVariables false
set_option linter.unusedSimpArgs false
open Go.RowKit Go.Proofs.Ytkndghbognhocaa.X Go.Proofs.YtkndghbognhocaaW.PrintWords Go.Proofs.YtkndghbognhocaaW.PrintLast Go.Proofs.YtkndghbognhocaaW.PrintMore
/-- what is left from the first place on at which a head begins -/
def skipL : List Int → List Int
  | [] => []
  | x :: l => if beginsI (x :: l) = true then x :: l else skipL l
theorem skip_le (l : List Int) : (skipL l).length ≤ l.length := by
  induction l with
  | nil => exact Nat.le_refl _
  | cons x l ih =>
    rw [skipL]
    split
    · exact Nat.le_refl _
    · rw [List.length_cons]; omega
theorem skip_drop (l : List Int) : skipL l = l.drop (l.length - (skipL l).length) := by
  induction l with
  | nil => rfl
  | cons x l ih =>
    rw [skipL]
    split
    · rw [Nat.sub_self]; rfl
    · have := skip_le l
      rw [List.length_cons, show l.length + 1 - (skipL l).length = (l.length - (skipL l).length) + 1 by omega, List.drop_succ_cons]
      exact ih
theorem skip_BI {l : List Int} (h : BI l) : BI (skipL l) := by rw [skip_drop]; exact BI_drop h _
theorem begins_head {x : Int} {l : List Int} (h : beginsI (x :: l) = true) : x = 73 := by
  unfold beginsI at h
  rw [Bool.and_eq_true, decide_eq_true_eq] at h
  have := congrArg (fun z : List Int => z.head?) h.1
  simpa using this
/-- where the next byte 73 is -/
theorem index_spec (l : List Int) (h : BI l) : (Lib.indexByte (Lib.bytesOf l) 73 = -1 ∧ skipL l = []) ∨ (∃ n : Nat, Lib.indexByte (Lib.bytesOf l) 73 = (n : Int) ∧ n < l.length ∧ skipL l = skipL (l.drop n)) := by
  induction l with
  | nil => exact .inl ⟨rfl, rfl⟩
  | cons x l ih =>
    have hx := h x (by simp)
    have hi : Lib.indexByte (Lib.bytesOf (x :: l)) 73 = if (UInt8.ofNat x.toNat == 73) then 0 else if Lib.indexByte (Lib.bytesOf l) 73 == -1 then -1 else Lib.indexByte (Lib.bytesOf l) 73 + 1 := rfl
    by_cases h73 : x = 73
    · right
      refine ⟨0, ?_, by simp, by simp⟩
      rw [hi]
      subst h73
      rfl
    · have hne : (UInt8.ofNat x.toNat == 73) = false := by
        rw [beq_eq_false_iff_ne]
        intro he
        have := congrArg UInt8.toNat he
        simp only [UInt8.toNat_ofNat'] at this
        have : x.toNat % 256 = 73 := this
        omega
      have hs : skipL (x :: l) = skipL l := by
        rw [skipL, if_neg (fun hb => h73 (begins_head hb))]
      rw [hi, hne, hs]
      simp only [Bool.false_eq_true, if_false]
      rcases ih (fun y hy => h y (by simp [hy])) with ⟨h1, h2⟩ | ⟨n, h1, h2, h3⟩
      · left
        rw [h1]
        exact ⟨rfl, h2⟩
      · right
        refine ⟨n + 1, ?_, by simp; omega, by rw [List.drop_succ_cons]; exact h3⟩
        rw [h1, if_neg (by rw [beq_iff_eq]; omega)]
        omega
/-- how many bytes the frame at the front has inside -/
def sizeN (l : List Int) : Nat := (num3 (l.getD 2 0) (l.getD 3 0) (l.getD 4 0)).toNat
/-- What Next answers of the bytes l, and what waits then: the answer's bytes, is there one, the error; what is left, told. -/
def nextI (l : List Int) (told : Bool) : (List Int × Bool × Int) × List Int × Bool :=
  let m := skipL l
  if m.length < l.length ∧ told = false then (([], false, 4), m, true)
  else if m.length < 9 then (([], false, 0), m, told)
  else if m.length < 13 + sizeN m then (([], false, 0), m, told)
  else if crc4 (m.take (9 + sizeN m)) = (m.take (13 + sizeN m)).drop (9 + sizeN m) then (((m.take (9 + sizeN m)).drop 9, true, 0), m.drop (13 + sizeN m), false)
  else (([], false, 30), m.drop (13 + sizeN m), false)
theorem num3_bounds (l : List Int) (h : BI l) (h5 : 5 ≤ l.length) : (sizeN l : Int) = num3 (l.getD 2 0) (l.getD 3 0) (l.getD 4 0) ∧ sizeN l < 16777216 := by
  obtain ⟨a, b, c, d, e, t, rfl⟩ := five l h5
  have hc := h c (by simp)
  have hd := h d (by simp)
  have he := h e (by simp)
  have : num3 c d e = c * 65536 + d * 256 + e := rfl
  show ((num3 c d e).toNat : Int) = num3 c d e ∧ (num3 c d e).toNat < 16777216
  omega
theorem next_BI {l : List Int} (h : BI l) (told : Bool) : BI (nextI l told).1.1 ∧ BI (nextI l told).2.1 := by
  have hm := skip_BI h
  unfold nextI
  simp only []
  split
  · exact ⟨BI_nil, hm⟩
  · split
    · exact ⟨BI_nil, hm⟩
    · split
      · exact ⟨BI_nil, hm⟩
      · split
        · exact ⟨BI_drop (BI_take hm _) _, BI_drop hm _⟩
        · exact ⟨BI_nil, BI_drop hm _⟩
theorem next_le (l : List Int) (told : Bool) : (nextI l told).2.1.length ≤ l.length ∧ (nextI l told).1.1.length ≤ l.length := by
  have hm := skip_le l
  unfold nextI
  simp only []
  split
  · exact ⟨hm, Nat.zero_le _⟩
  · split
    · exact ⟨hm, Nat.zero_le _⟩
    · split
      · exact ⟨hm, Nat.zero_le _⟩
      · split
        · simp only [List.length_drop, List.length_take]; omega
        · simp only [List.length_drop, List.length_nil]; omega
end Go.Proofs.Ytkndghbognhocaa.Pure
