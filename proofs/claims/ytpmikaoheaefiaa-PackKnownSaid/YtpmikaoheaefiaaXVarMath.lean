/- Numbers as bytes: what is written, what is read; no program. -/
import Derived.Test.YtpmikaoheaefiaaXLit
import Derived.Test.YtpmikaoheaefiaaWMore
import Derived.Test.YtpmikaoheaefiaaWLast
import Derived.Laws.BitsAllLaws
namespace Go.Proofs.Ytpmikaoheaefiaa.Pure
set_option linter.unusedVariables false
set_option linter.unusedSimpArgs false
open Go.RowKit Go.Proofs.YtpmikaoheaefiaaW.PrintWords Go.Proofs.YtpmikaoheaefiaaW.PrintLast Go.Proofs.YtpmikaoheaefiaaW.PrintMore

theorem ev_pos {α : Type} {c : Prop} [Decidable c] {f g : Nat → Option α} {r : α} (h : c) (k : Ev f r) : Ev (fun n => if c then f n else g n) r := by
  simpa only [if_pos h] using k
theorem ev_neg {α : Type} {c : Prop} [Decidable c] {f g : Nat → Option α} {r : α} (h : ¬ c) (k : Ev g r) : Ev (fun n => if c then f n else g n) r := by
  simpa only [if_neg h] using k
theorem ev_some {α β : Type} {f : Nat → α → Option β} {o : Option α} {a : α} {r : β} (h : o = some a) (k : Ev (fun n => f n a) r) : Ev (fun n => o.bind (f n)) r := by
  subst h; exact k
theorem ev_eq {α : Type} {f : Nat → Option α} {r r' : α} (h : r = r') (k : Ev f r) : Ev f r' := h ▸ k
def BI (l : List Int) : Prop := ∀ x ∈ l, 0 ≤ x ∧ x < 256
theorem BI_nil : BI [] := fun _ h => by cases h
theorem BI_cons {c : Int} {l : List Int} (h0 : 0 ≤ c) (h1 : c < 256) (h : BI l) : BI (c :: l) := by
  intro x hx
  rcases List.mem_cons.1 hx with rfl | hx
  · exact ⟨h0, h1⟩
  · exact h x hx
theorem BI_append {a b : List Int} (ha : BI a) (hb : BI b) : BI (a ++ b) := fun x hx => (List.mem_append.1 hx).elim (ha x) (hb x)
theorem BI_take {l : List Int} (h : BI l) (n : Nat) : BI (l.take n) := fun x hx => h x (List.mem_of_mem_take hx)
theorem BI_drop {l : List Int} (h : BI l) (n : Nat) : BI (l.drop n) := fun x hx => h x (List.mem_of_mem_drop hx)
theorem BI_of (l : List Int) (h : l.all (fun x => decide (0 ≤ x) && decide (x < 256)) = true) : BI l := by
  intro x hx
  have := List.all_eq_true.1 h x hx
  simpa using this
theorem rd_at (l : List Int) (i : Nat) (hi : i < l.length) : rd l (i : Int) = l[i] := by
  simp only [rd, Int.toNat_natCast, List.getD_eq_getElem?_getD, List.getElem?_eq_getElem hi, Option.getD_some]
theorem wf_u8 {x : Int} (h : (Lit.int .u8 x).wf = true) : 0 ≤ x ∧ x < 256 := by
  simp only [Lit.wf, Bool.and_eq_true, decide_eq_true_eq] at h
  have h1 : IntKind.u8.min = 0 := rfl
  have h2 : IntKind.u8.max = 255 := rfl
  omega
theorem wf_i64 {x : Int} (h : (Lit.int .i64 x).wf = true) : -9223372036854775808 ≤ x ∧ x < 9223372036854775808 := by
  simp only [Lit.wf, Bool.and_eq_true, decide_eq_true_eq] at h
  have h1 : IntKind.i64.min = -9223372036854775808 := rfl
  have h2 : IntKind.i64.max = 9223372036854775807 := rfl
  omega
theorem BI_wf {l : List Int} (h : ∀ x ∈ l, (Lit.int .u8 x).wf = true) : BI l := fun x hx => wf_u8 (h x hx)
theorem w64 {x : Int} (h0 : -9223372036854775808 ≤ x) (h1 : x < 9223372036854775808) : wrap64 x = x := by unfold wrap64; omega
theorem mn_spec (a b : Int) : mn a b ≤ a ∧ mn a b ≤ b ∧ (mn a b = a ∨ mn a b = b) := by unfold mn; split <;> omega

/-! ### written -/
/-- A number's bytes. -/
def enc (n : Nat) : List Int := if h : n < 128 then [(n : Int)] else ((n % 128 + 128 : Nat) : Int) :: enc (n / 128)
termination_by n
decreasing_by omega
theorem enc_small (n : Nat) (h : n < 128) : enc n = [(n : Int)] := by rw [enc, dif_pos h]
theorem enc_big (n : Nat) (h : ¬ n < 128) : enc n = ((n % 128 + 128 : Nat) : Int) :: enc (n / 128) := by rw [enc, dif_neg h]
theorem enc_length (d : Nat) : ∀ n, n < 2 ^ (7 * (d + 1)) → (enc n).length ≤ d + 1 := by
  induction d with
  | zero => intro n h; rw [enc_small n (by simpa using h)]; simp
  | succ d ih =>
    intro n h
    by_cases hn : n < 128
    · rw [enc_small n hn]; simp
    · rw [enc_big n hn, List.length_cons]
      have := ih (n / 128) (by
        rw [show 7 * (d + 1 + 1) = 7 * (d + 1) + 7 by omega, Nat.pow_add] at h
        omega)
      omega
theorem enc_pos (n : Nat) : 0 < (enc n).length := by
  by_cases hn : n < 128
  · rw [enc_small n hn]; simp
  · rw [enc_big n hn]; simp
theorem enc_le8 (n : Nat) (h : n ≤ 9007199254740991) : (enc n).length ≤ 8 := enc_length 7 n (by omega)
theorem enc_BI (m : Nat) : ∀ n, n ≤ m → BI (enc n) := by
  induction m with
  | zero => intro n h; rw [enc_small n (by omega)]; exact BI_cons (by omega) (by omega) BI_nil
  | succ m ih =>
    intro n h
    by_cases hn : n < 128
    · rw [enc_small n hn]; exact BI_cons (by omega) (by omega) BI_nil
    · rw [enc_big n hn]; exact BI_cons (by omega) (by omega) (ih _ (by omega))

/-! ### read -/
/-- error (0: none), number, how many bytes, is the last one nought -/
def raw : Nat → List Int → Int × Nat × Nat × Bool
  | 0, _ => (4, 0, 0, false)
  | _ + 1, [] => (3, 0, 0, false)
  | d + 1, b :: l => if b < 128 then (0, b.toNat, 1, decide (b = 0)) else if (raw d l).1 = 0 then (0, (b.toNat - 128) + 128 * (raw d l).2.1, (raw d l).2.2.1 + 1, (raw d l).2.2.2) else ((raw d l).1, 0, 0, false)
def fin (n s : Nat) (z : Bool) : Int × Int × Int := if (z = true ∧ 1 < s) ∨ 9007199254740991 < n then (0, 0, 4) else ((n : Int), (s : Int), 0)
def out (acc p i : Nat) (r : Int × Nat × Nat × Bool) : Int × Int × Int := if r.1 = 0 then fin (acc + p * r.2.1) (i + r.2.2.1) r.2.2.2 else (0, 0, r.1)
/-- number, how many bytes, error -/
def tk (l : List Int) : Int × Int × Int := out 0 1 0 (raw 8 l)
theorem raw_size (d : Nat) : ∀ l, (raw d l).1 = 0 → 1 ≤ (raw d l).2.2.1 ∧ (raw d l).2.2.1 ≤ l.length ∧ (raw d l).2.2.1 ≤ d := by
  induction d with
  | zero => intro l h; simp [raw] at h
  | succ d ih =>
    intro l h
    cases l with
    | nil => simp [raw] at h
    | cons b l =>
      by_cases hb : b < 128
      · simp [raw, hb]
      · by_cases hr : (raw d l).1 = 0
        · have := ih l hr
          simp only [raw, if_neg hb, if_pos hr, List.length_cons]
          omega
        · simp [raw, hb, hr] at h
theorem raw_err (d : Nat) : ∀ l, (raw d l).1 = 0 ∨ (raw d l).1 = 3 ∨ (raw d l).1 = 4 := by
  induction d with
  | zero => intro l; simp [raw]
  | succ d ih =>
    intro l
    cases l with
    | nil => simp [raw]
    | cons b l =>
      by_cases hb : b < 128
      · simp [raw, hb]
      · by_cases hr : (raw d l).1 = 0
        · simp [raw, hb, hr]
        · have := ih l
          simp only [raw, if_neg hb, if_neg hr]
          omega
theorem tk_spec (l : List Int) : (∃ n s : Nat, tk l = ((n : Int), (s : Int), 0) ∧ n ≤ 9007199254740991 ∧ 1 ≤ s ∧ s ≤ l.length ∧ raw 8 l = (0, n, s, (raw 8 l).2.2.2) ∧ ((raw 8 l).2.2.2 = true → s ≤ 1)) ∨ tk l = (0, 0, 3) ∨ tk l = (0, 0, 4) := by
  unfold tk out
  by_cases h : (raw 8 l).1 = 0
  · obtain ⟨h1, h2, h3⟩ := raw_size 8 l h
    rw [if_pos h]
    unfold fin
    simp only [Nat.zero_add, Nat.one_mul]
    split
    · exact Or.inr (Or.inr rfl)
    · rename_i hc
      refine Or.inl ⟨_, _, rfl, by omega, h1, h2, ?_, fun hz => ?_⟩
      · exact Prod.ext h rfl
      · apply Nat.le_of_not_lt
        intro h4
        exact hc (Or.inl ⟨hz, h4⟩)
  · rw [if_neg h]
    rcases raw_err 8 l with he | he | he
    · exact absurd he h
    · rw [he]; exact Or.inr (Or.inl rfl)
    · rw [he]; exact Or.inr (Or.inr rfl)
/-- What is written is read. -/
theorem raw_enc (d : Nat) : ∀ (n : Nat) (r : List Int), n < 2 ^ (7 * (d + 1)) → raw (d + 1) (enc n ++ r) = (0, n, (enc n).length, decide (n = 0)) := by
  induction d with
  | zero =>
    intro n r h
    have hn : n < 128 := by simpa using h
    rw [enc_small n hn]
    simp [raw, show (n : Int) < 128 by omega]
  | succ d ih =>
    intro n r h
    by_cases hn : n < 128
    · rw [enc_small n hn]
      simp [raw, show (n : Int) < 128 by omega]
    · have h2 : n / 128 < 2 ^ (7 * (d + 1)) := by
        rw [show 7 * (d + 1 + 1) = 7 * (d + 1) + 7 by omega, Nat.pow_add] at h
        omega
      rw [enc_big n hn, List.cons_append, raw, if_neg (by omega), ih _ r h2, if_pos rfl]
      have e1 : decide (n / 128 = 0) = false := decide_eq_false (by omega)
      have e2 : decide (n = 0) = false := decide_eq_false (by omega)
      simp only [e1, e2, List.length_cons, Int.toNat_natCast, Prod.mk.injEq, and_true, true_and]
      omega
theorem tk_enc (n : Nat) (r : List Int) (h : n ≤ 9007199254740991) : tk (enc n ++ r) = ((n : Int), ((enc n).length : Int), 0) := by
  unfold tk out
  rw [raw_enc 7 n r (by omega), if_pos rfl]
  unfold fin
  rw [if_neg]
  · simp
  · rintro (⟨h0, h1⟩ | h1)
    · have : n = 0 := by simpa using h0
      subst this
      rw [enc_small 0 (by omega)] at h1
      simp at h1
    · simp at h1; omega
/-- What is read is written so. -/
theorem enc_raw (d : Nat) : ∀ (l : List Int), BI l → (raw d l).1 = 0 → ((raw d l).2.2.2 = true → (raw d l).2.2.1 ≤ 1) → enc (raw d l).2.1 = l.take (raw d l).2.2.1 ∧ ((raw d l).2.2.2 = false → 0 < (raw d l).2.1) := by
  induction d with
  | zero => intro l _ h; simp [raw] at h
  | succ d ih =>
    intro l hB h hz
    cases l with
    | nil => simp [raw] at h
    | cons b l =>
      have hb := hB b (by simp)
      by_cases h1 : b < 128
      · simp only [raw, if_pos h1] at hz ⊢
        rw [enc_small _ (by omega)]
        refine ⟨by simp; omega, fun h0 => ?_⟩
        have : ¬ b = 0 := by simpa using h0
        omega
      · by_cases hr : (raw d l).1 = 0
        · simp only [raw, if_neg h1, if_pos hr] at hz ⊢
          have hs := raw_size d l hr
          have hzf : (raw d l).2.2.2 = false := by
            cases hq : (raw d l).2.2.2 with
            | false => rfl
            | true => have := hz hq; omega
          obtain ⟨e, p⟩ := ih l (fun x hx => hB x (by simp [hx])) hr (fun hq => by rw [hzf] at hq; cases hq)
          have p := p hzf
          refine ⟨?_, fun _ => by omega⟩
          rw [enc_big _ (by omega), List.take_succ_cons, show (b.toNat - 128 + 128 * (raw d l).2.1) / 128 = (raw d l).2.1 by omega, e]
          congr 1
          omega
        · simp [raw, h1, hr] at h
theorem enc_tk (l : List Int) (hB : BI l) (n s : Nat) (h : tk l = ((n : Int), (s : Int), 0)) : enc n = l.take s := by
  rcases tk_spec l with ⟨n', s', h1, _, _, _, h2, h3⟩ | h1 | h1
  · rw [h1] at h
    have e1 : n' = n := by have := congrArg (fun z => z.1) h; simp at this; omega
    have e2 : s' = s := by have := congrArg (fun z => z.2.1) h; simp at this; omega
    subst e1; subst e2
    have hn : (raw 8 l).2.1 = n' := by rw [h2]
    have hs : (raw 8 l).2.2.1 = s' := by rw [h2]
    have := (enc_raw 8 l hB (by rw [h2]) (fun hz => by rw [hs]; exact h3 hz)).1
    rwa [hn, hs] at this
  · rw [h1] at h; simp at h
  · rw [h1] at h; simp at h
/-- What is cut is told. -/
theorem raw_cut (d : Nat) : ∀ (n t : Nat), t < (enc n).length → t < d → raw d ((enc n).take t) = (3, 0, 0, false) := by
  induction d with
  | zero => intro n t _ h; omega
  | succ d ih =>
    intro n t ht hd
    cases t with
    | zero => simp [raw]
    | succ t =>
      by_cases hn : n < 128
      · rw [enc_small n hn] at ht; simp at ht
      · rw [enc_big n hn, List.length_cons] at ht
        rw [enc_big n hn, List.take_succ_cons, raw, if_neg (by omega), ih _ t (by omega) (by omega), if_neg (by decide)]
theorem tk_cut (n t : Nat) (ht : t < (enc n).length) (hn : n ≤ 9007199254740991) : tk ((enc n).take t) = (0, 0, 3) := by
  unfold tk out
  rw [raw_cut 8 n t ht (by have := enc_le8 n hn; omega)]
  rfl
end Go.Proofs.Ytpmikaoheaefiaa.Pure
