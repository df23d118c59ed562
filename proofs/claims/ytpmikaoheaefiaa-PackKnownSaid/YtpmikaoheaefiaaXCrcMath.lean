/- The sum's mathematics: a bit falls out, a byte is taken in, bytes as one number, bits that are turned; no program. -/
import Derived.Test.YtpmikaoheaefiaaXLit
namespace Go.Proofs.Ytpmikaoheaefiaa.Crc

/-- The polynomial. -/
def P : Nat := 3988292384
/-- One bit falls out. -/
def t (x : Nat) : Nat := (x / 2) ^^^ (if x % 2 = 1 then 3988292384 else 0)
def tn : Nat → Nat → Nat
  | 0, x => x
  | k + 1, x => tn k (t x)

theorem xor_mod2 (x y : Nat) : (x ^^^ y) % 2 = (x % 2) ^^^ (y % 2) := by
  have := @Nat.xor_mod_two_pow x y 1
  simpa using this
theorem xor_div2 (x y : Nat) : (x ^^^ y) / 2 = (x / 2) ^^^ (y / 2) := by
  have := @Nat.xor_div_two_pow x y 1
  simpa using this

theorem t_xor (x y : Nat) : t (x ^^^ y) = t x ^^^ t y := by
  unfold t
  rw [xor_div2, xor_mod2]
  rcases Nat.mod_two_eq_zero_or_one x with hx | hx <;> rcases Nat.mod_two_eq_zero_or_one y with hy | hy <;> simp only [hx, hy] <;> simp
  · ac_rfl
  · ac_rfl
  · rw [show x / 2 ^^^ 3988292384 ^^^ (y / 2 ^^^ 3988292384) = x / 2 ^^^ y / 2 ^^^ (3988292384 ^^^ 3988292384) by ac_rfl]; simp
theorem tn_xor (k x y : Nat) : tn k (x ^^^ y) = tn k x ^^^ tn k y := by
  induction k generalizing x y with
  | zero => rfl
  | succ k ih => simp only [tn, t_xor, ih]
theorem t_double (x : Nat) : t (2 * x) = x := by
  unfold t; simp
theorem tn_shift (k x : Nat) : tn k (2 ^ k * x) = x := by
  induction k generalizing x with
  | zero => simp [tn]
  | succ k ih =>
    simp only [tn]
    rw [show 2 ^ (k + 1) * x = 2 * (2 ^ k * x) by rw [Nat.pow_succ]; ac_rfl, t_double, ih]
theorem tn_add (j k x : Nat) : tn (j + k) x = tn k (tn j x) := by
  induction j generalizing x with
  | zero => simp [tn]
  | succ j ih => rw [show j + 1 + k = (j + k) + 1 by omega]; simp only [tn, ih]
theorem t_zero : t 0 = 0 := by decide
theorem tn_zero (k : Nat) : tn k 0 = 0 := by
  induction k with
  | zero => rfl
  | succ k ih => simp only [tn, t_zero, ih]
theorem t_lt (x : Nat) (h : x < 4294967296) : t x < 4294967296 := by
  unfold t
  exact Nat.xor_lt_two_pow (n := 32) (by omega) (by split <;> omega)
theorem tn_lt (k x : Nat) (h : x < 4294967296) : tn k x < 4294967296 := by
  induction k generalizing x with
  | zero => exact h
  | succ k ih => exact ih _ (t_lt x h)

/-- The other way round. -/
def u (x : Nat) : Nat := if 2147483648 ≤ x then (2 * (x ^^^ 3988292384)) % 4294967296 + 1 else 2 * x
theorem testBit31 (x : Nat) (h : x < 4294967296) : x.testBit 31 = decide (2147483648 ≤ x) := by
  rw [Nat.testBit_eq_decide_div_mod_eq]
  by_cases hx : 2147483648 ≤ x
  · have : x / 2 ^ 31 = 1 := by omega
    simp [this, hx]
  · have : x / 2 ^ 31 = 0 := by omega
    simp [this, hx]
theorem xor_P_big (y : Nat) (h : y < 2147483648) : 2147483648 ≤ y ^^^ 3988292384 := by
  have hlt : y ^^^ 3988292384 < 4294967296 := Nat.xor_lt_two_pow (n := 32) (by omega) (by omega)
  have : (y ^^^ 3988292384).testBit 31 = true := by
    rw [Nat.testBit_xor, testBit31 y (by omega)]
    have : decide (2147483648 ≤ y) = false := by simpa using h
    rw [this]; decide
  rw [testBit31 _ hlt] at this
  simpa using this
theorem xor_P_small (y : Nat) (h : 2147483648 ≤ y) (h2 : y < 4294967296) : y ^^^ 3988292384 < 2147483648 := by
  have hlt : y ^^^ 3988292384 < 4294967296 := Nat.xor_lt_two_pow (n := 32) (by omega) (by omega)
  have : (y ^^^ 3988292384).testBit 31 = false := by
    rw [Nat.testBit_xor, testBit31 y (by omega)]
    have : decide (2147483648 ≤ y) = true := by simpa using h
    rw [this]; decide
  rw [testBit31 _ hlt] at this
  simpa using this
theorem u_t (x : Nat) (h : x < 4294967296) : u (t x) = x := by
  unfold t
  rcases Nat.mod_two_eq_zero_or_one x with hx | hx
  · simp only [hx]
    simp only [show ¬ ((0 : Nat) = 1) by omega, if_false, Nat.xor_zero]
    unfold u
    rw [if_neg (by omega)]; omega
  · simp only [hx, if_true]
    have := xor_P_big (x / 2) (by omega)
    unfold u
    rw [if_pos this, Nat.xor_assoc, Nat.xor_self, Nat.xor_zero]; omega
theorem t_u (x : Nat) (h : x < 4294967296) : t (u x) = x := by
  unfold u
  split
  · rename_i hx
    have := xor_P_small x hx h
    rw [Nat.mod_eq_of_lt (by omega)]
    unfold t
    rw [show (2 * (x ^^^ 3988292384) + 1) / 2 = x ^^^ 3988292384 by omega, show (2 * (x ^^^ 3988292384) + 1) % 2 = 1 by omega]
    simp only [if_true]
    rw [Nat.xor_assoc, Nat.xor_self, Nat.xor_zero]
  · exact t_double x
theorem u_lt (x : Nat) (h : x < 4294967296) : u x < 4294967296 := by
  unfold u; split <;> omega
theorem t_inj (x y : Nat) (hx : x < 4294967296) (hy : y < 4294967296) (h : t x = t y) : x = y := by
  rw [← u_t x hx, h, u_t y hy]
def un : Nat → Nat → Nat
  | 0, x => x
  | k + 1, x => un k (u x)
theorem un_lt (k x : Nat) (h : x < 4294967296) : un k x < 4294967296 := by
  induction k generalizing x with
  | zero => exact h
  | succ k ih => exact ih _ (u_lt x h)
theorem un_succ (k x : Nat) : un (k + 1) x = u (un k x) := by
  induction k generalizing x with
  | zero => rfl
  | succ k ih => rw [un, ih]; rfl
theorem tn_succ (k x : Nat) : tn (k + 1) x = t (tn k x) := by
  induction k generalizing x with
  | zero => rfl
  | succ k ih => rw [tn, ih]; rfl
theorem un_tn (k x : Nat) (h : x < 4294967296) : un k (tn k x) = x := by
  induction k generalizing x with
  | zero => rfl
  | succ k ih => rw [un_succ, tn, ih _ (t_lt x h), u_t x h]
theorem tn_un (k x : Nat) (h : x < 4294967296) : tn k (un k x) = x := by
  induction k generalizing x with
  | zero => rfl
  | succ k ih => rw [tn_succ, un, ih _ (u_lt x h), t_u x h]
theorem tn_inj (k x y : Nat) (hx : x < 4294967296) (hy : y < 4294967296) (h : tn k x = tn k y) : x = y := by
  rw [← un_tn k x hx, h, un_tn k y hy]

/-! ### Bytes -/
/-- A byte is taken in. -/
def tk (s c : Nat) : Nat := tn 8 (s ^^^ c)
/-- The state behind some bytes. -/
def run (s : Nat) : List Nat → Nat
  | [] => s
  | c :: l => run (tk s c) l
/-- On's answer. -/
def on (s : Nat) (l : List Nat) : Nat := 4294967295 ^^^ run (4294967295 ^^^ s) l

theorem run_append (s : Nat) (a b : List Nat) : run s (a ++ b) = run (run s a) b := by
  induction a generalizing s with
  | nil => rfl
  | cons c a ih => simp only [List.cons_append, run, ih]
theorem on_append (s : Nat) (a b : List Nat) : on s (a ++ b) = on (on s a) b := by
  unfold on
  rw [run_append, ← Nat.xor_assoc, Nat.xor_self, Nat.zero_xor]
def B (l : List Nat) : Prop := ∀ c ∈ l, c < 256
theorem tk_lt (s c : Nat) (hs : s < 4294967296) (hc : c < 256) : tk s c < 4294967296 :=
  tn_lt _ _ (Nat.xor_lt_two_pow (n := 32) (by omega) (by omega))
theorem run_lt (s : Nat) (l : List Nat) (hs : s < 4294967296) (hl : B l) : run s l < 4294967296 := by
  induction l generalizing s with
  | nil => exact hs
  | cons c l ih => exact ih _ (tk_lt s c hs (hl c (by simp))) (fun d hd => hl d (by simp [hd]))
theorem not_lt (s : Nat) (hs : s < 4294967296) : 4294967295 ^^^ s < 4294967296 := Nat.xor_lt_two_pow (n := 32) (by omega) (by omega)
theorem on_lt (s : Nat) (l : List Nat) (hs : s < 4294967296) (hl : B l) : on s l < 4294967296 :=
  not_lt _ (run_lt _ _ (not_lt s hs) hl)
theorem not_not (s : Nat) : 4294967295 ^^^ (4294967295 ^^^ s) = s := by rw [← Nat.xor_assoc, Nat.xor_self, Nat.zero_xor]

/-- The bytes as one number, the first one lowest. -/
def word : List Nat → Nat
  | [] => 0
  | c :: l => c + 256 * word l
theorem word_lt (l : List Nat) (hl : B l) : word l < 2 ^ (8 * l.length) := by
  induction l with
  | nil => simp [word]
  | cons c l ih =>
    have h1 := ih (fun d hd => hl d (by simp [hd]))
    have h2 := hl c (by simp)
    simp only [word, List.length_cons]
    rw [show 8 * (l.length + 1) = 8 * l.length + 8 by omega, Nat.pow_add]
    omega
theorem xor_add (c x : Nat) (hc : c < 256) : c + 256 * x = (256 * x) ^^^ c := by
  have h1 : 256 * x + c = 2 ^ 8 * x + c := by simp
  rw [Nat.add_comm, h1, Nat.two_pow_add_eq_or_of_lt (by omega)]
  apply Nat.eq_of_testBit_eq
  intro i
  rw [Nat.testBit_or, Nat.testBit_xor]
  by_cases hi : i < 8
  · have : (2 ^ 8 * x).testBit i = false := by
      rw [Nat.testBit_two_pow_mul]; simp; omega
    rw [this]; simp
  · have : c.testBit i = false := Nat.testBit_lt_two_pow (Nat.lt_of_lt_of_le hc (show 2 ^ 8 ≤ 2 ^ i from Nat.pow_le_pow_right (by omega) (by omega)))
    rw [this]; simp
/-- Behind some bytes: the whole word is laid over the state, and as many bits fall out. -/
theorem run_word (l : List Nat) (hl : B l) (s : Nat) : run s l = tn (8 * l.length) (s ^^^ word l) := by
  induction l generalizing s with
  | nil => simp [run, word, tn]
  | cons c l ih =>
    simp only [run, word, List.length_cons]
    rw [ih (fun d hd => hl d (by simp [hd]))]
    rw [show 8 * (l.length + 1) = 8 + 8 * l.length by omega, tn_add]
    congr 1
    rw [xor_add c _ (hl c (by simp)), show s ^^^ (256 * word l ^^^ c) = (s ^^^ c) ^^^ (2 ^ 8 * word l) by simp; ac_rfl, tn_xor, tn_shift]
    rfl

/-! ### What the statements need -/
/-- The sum ahead. -/
def back (s : Nat) : List Nat → Nat
  | [] => s
  | c :: l => un 8 (back s l) ^^^ c
theorem back_lt (s : Nat) (l : List Nat) (hs : s < 4294967296) (hl : B l) : back s l < 4294967296 := by
  induction l with
  | nil => exact hs
  | cons c l ih =>
    have hc := hl c (by simp)
    exact Nat.xor_lt_two_pow (n := 32) (un_lt 8 _ (ih (fun d hd => hl d (by simp [hd])))) (by omega)
theorem back_run (s : Nat) (l : List Nat) (hs : s < 4294967296) (hl : B l) : back (run s l) l = s := by
  induction l generalizing s with
  | nil => rfl
  | cons c l ih =>
    have hc := hl c (by simp)
    simp only [run, back]
    rw [ih _ (tk_lt s c hs hc) (fun d hd => hl d (by simp [hd]))]
    unfold tk
    rw [un_tn _ _ (Nat.xor_lt_two_pow (n := 32) (by omega) (by omega)), Nat.xor_assoc, Nat.xor_self, Nat.xor_zero]
theorem run_back (s : Nat) (l : List Nat) (hs : s < 4294967296) (hl : B l) : run (back s l) l = s := by
  induction l generalizing s with
  | nil => rfl
  | cons c l ih =>
    have hc := hl c (by simp)
    have hl' : B l := fun d hd => hl d (by simp [hd])
    simp only [run, back]
    unfold tk
    rw [Nat.xor_assoc, Nat.xor_self, Nat.xor_zero, tn_un _ _ (back_lt s l hs hl'), ih s hs hl']
/-- ahead's answer. -/
def ahead (s : Nat) (l : List Nat) : Nat := 4294967295 ^^^ back (4294967295 ^^^ s) l
theorem ahead_on (s : Nat) (l : List Nat) (hs : s < 4294967296) (hl : B l) : ahead (on s l) l = s := by
  unfold ahead on
  rw [not_not, back_run _ _ (not_lt s hs) hl, not_not]
theorem on_ahead (s : Nat) (l : List Nat) (hs : s < 4294967296) (hl : B l) : on (ahead s l) l = s := by
  unfold ahead on
  rw [not_not, run_back _ _ (not_lt s hs) hl, not_not]
theorem on_inj (s r : Nat) (l : List Nat) (hs : s < 4294967296) (hr : r < 4294967296) (hl : B l) (h : on s l = on r l) : s = r := by
  rw [← ahead_on s l hs hl, h, ahead_on r l hr hl]

/-- A number's four bytes. -/
def four (n : Nat) : List Nat := [n % 256, n / 256 % 256, n / 65536 % 256, n / 16777216 % 256]
theorem four_B (n : Nat) : B (four n) := by
  intro c hc
  simp only [four, List.mem_cons, List.not_mem_nil, or_false] at hc
  omega
theorem word_four (n : Nat) (h : n < 4294967296) : word (four n) = n := by
  simp only [four, word]
  omega
theorem on_four (s n : Nat) (hn : n < 4294967296) : on s (four n) = 4294967295 ^^^ tn 32 ((4294967295 ^^^ s) ^^^ n) := by
  unfold on
  rw [run_word _ (four_B n), word_four n hn]
  rfl
theorem residue (s : Nat) (h : s < 4294967296) : on s (four s) = 558161692 := by
  rw [on_four s s h, Nat.xor_assoc, Nat.xor_self, Nat.xor_zero]
  decide +kernel
theorem on_four_inj (s m n : Nat) (hs : s < 4294967296) (hm : m < 4294967296) (hn : n < 4294967296) (h : on s (four m) = on s (four n)) : m = n := by
  rw [on_four s m hm, on_four s n hn] at h
  have h2 : tn 32 ((4294967295 ^^^ s) ^^^ m) = tn 32 ((4294967295 ^^^ s) ^^^ n) := by
    rw [← not_not (tn 32 ((4294967295 ^^^ s) ^^^ m)), h, not_not]
  have h3 := tn_inj 32 _ _ (Nat.xor_lt_two_pow (n := 32) (not_lt s hs) (by omega)) (Nat.xor_lt_two_pow (n := 32) (not_lt s hs) (by omega)) h2
  have h4 : (4294967295 ^^^ s) ^^^ ((4294967295 ^^^ s) ^^^ m) = (4294967295 ^^^ s) ^^^ ((4294967295 ^^^ s) ^^^ n) := by rw [h3]
  rwa [← Nat.xor_assoc, Nat.xor_self, Nat.zero_xor, ← Nat.xor_assoc, Nat.xor_self, Nat.zero_xor] at h4
/-- The whole's sum is the residue just if the last four are the sum ahead. -/
theorem residue_iff (s n : Nat) (hs : s < 4294967296) (hn : n < 4294967296) : on s (four n) = 558161692 ↔ n = s := by
  constructor
  · intro h
    exact on_four_inj s n s hs hn hs (by rw [h, residue s hs])
  · rintro rfl
    exact residue n hs
theorem reach (s w : Nat) (hs : s < 4294967296) (hw : w < 4294967296) : on s (four (s ^^^ ahead w (four 0))) = w := by
  have ha : ahead w (four 0) < 4294967296 := not_lt _ (back_lt _ _ (not_lt w hw) (four_B 0))
  have hn : s ^^^ ahead w (four 0) < 4294967296 := Nat.xor_lt_two_pow (n := 32) (by omega) ha
  rw [on_four _ _ hn]
  have h := on_ahead w (four 0) hw (four_B 0)
  rw [on_four _ _ (by omega), Nat.xor_zero] at h
  rw [show 4294967295 ^^^ s ^^^ (s ^^^ ahead w (four 0)) = 4294967295 ^^^ ahead w (four 0) ^^^ (s ^^^ s) by ac_rfl, Nat.xor_self, Nat.xor_zero]
  exact h

/-! ### Bits that are turned -/
def lay : List Nat → List Nat → List Nat
  | [], l => l
  | _, [] => []
  | d :: ds, c :: l => (c ^^^ d) :: lay ds l
theorem run_lay (ds l : List Nat) (s r : Nat) (h : ds.length = l.length) : run (s ^^^ r) (lay ds l) = run s l ^^^ run r ds := by
  induction l generalizing ds s r with
  | nil =>
    have : ds = [] := List.length_eq_zero_iff.mp h
    subst this; rfl
  | cons c l ih =>
    cases ds with
    | nil => simp at h
    | cons d ds =>
      simp only [lay, run]
      rw [← ih ds _ _ (by simpa using h)]
      congr 1
      unfold tk
      rw [← tn_xor]
      congr 1
      ac_rfl
/-- Up to 32 bits, moved up by fewer than eight places, over as many bytes as there are: something is left if something was turned. -/
theorem word_burst (n k m : Nat) (hn : n < 4294967296) (hk : k < 8) (hm : 0 < m) : tn (8 * m) ((n * 2 ^ k) % 2 ^ (8 * m)) = 0 → (n * 2 ^ k) % 2 ^ (8 * m) = 0 := by
  intro h
  have e : (n * 2 ^ k) % 2 ^ (8 * m) = 2 ^ k * (n % 2 ^ (8 * m - k)) := by
    rw [show 2 ^ (8 * m) = 2 ^ k * 2 ^ (8 * m - k) by rw [← Nat.pow_add]; congr 1; omega, Nat.mul_comm n, Nat.mul_mod_mul_left]
  rw [e] at h ⊢
  rw [show 8 * m = k + (8 * m - k) by omega, tn_add, tn_shift] at h
  rw [show k + (8 * m - k) - k = 8 * m - k by omega] at h
  have hlt : n % 2 ^ (8 * m - k) < 4294967296 := Nat.lt_of_le_of_lt (Nat.mod_le _ _) hn
  have := tn_inj (8 * m - k) _ 0 hlt (by omega) (by rw [h, tn_zero])
  rw [this]; simp
end Go.Proofs.Ytpmikaoheaefiaa.Crc
