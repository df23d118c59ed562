/- Numbers, texts, sums, joined rows: what the printed functions answer (PkVar, PkCrc, PkJoin in one text). -/
import Derived.Test.YtpmikaoheaefiaaXx5
import Derived.Test.YtpmikaoheaefiaaXx1
import Derived.Test.YtpmikaoheaefiaaXx6
import Derived.Test.YtpmikaoheaefiaaXx2
import Derived.Test.YtpmikaoheaefiaaXx3
import Derived.Test.YtpmikaoheaefiaaXVarMath
import Derived.Test.YtpmikaoheaefiaaXCrcMath
namespace Go.Proofs.Ytpmikaoheaefiaa.Pure
set_option linter.unusedVariables false
set_option linter.unusedSimpArgs false
open Go.RowKit Go.Proofs.Ytpmikaoheaefiaa.X Go.Proofs.YtpmikaoheaefiaaW.PrintWords Go.Proofs.YtpmikaoheaefiaaW.PrintLast Go.Proofs.YtpmikaoheaefiaaW.PrintMore

/-! ### bytes compared and copied -/
theorem eq_loop (a b : List Int) (hab : a.length = b.length) (hn : a.length ≤ 9223372036854775800) (d : Nat) : ∀ (i : Nat), i + d = a.length →
    Ev (fun k => incunableref00_EqBytes.l0 k a b (i : Int)) (decide (a.drop i = b.drop i)) := by
  induction d with
  | zero =>
    intro i hi
    refine Ev.step (f := fun _ => some (decide (a.drop i = b.drop i))) (fun k => ?_) (Ev.now _)
    simp only [incunableref00_EqBytes.l0]
    rw [if_neg (by omega), List.drop_eq_nil_of_le (by omega), List.drop_eq_nil_of_le (by omega)]
    simp
  | succ d ih =>
    intro i hi
    have ha : i < a.length := by omega
    have hb : i < b.length := by omega
    have e : ∀ k, incunableref00_EqBytes.l0 (k + 1) a b (i : Int) = if a[i] = b[i] then incunableref00_EqBytes.l0 k a b ((i + 1 : Nat) : Int) else some false := fun k => by
      simp only [incunableref00_EqBytes.l0]
      rw [if_pos (by omega), if_pos (by omega), if_pos (by omega), rd_at a i ha, rd_at b i hb, w64 (by omega) (by omega)]; rfl
    refine Ev.step e ?_
    rw [List.drop_eq_getElem_cons ha, List.drop_eq_getElem_cons hb]
    by_cases h : a[i] = b[i]
    · simp only [if_pos h, List.cons.injEq, h, true_and]
      exact ih (i + 1) (by omega)
    · simp only [if_neg h, List.cons.injEq, h, false_and]
      exact Ev.now _
theorem eq_ev (a b : List Int) (hn : a.length ≤ 9223372036854775800) : Ev (fun k => incunableref00_EqBytes.f k a b) (decide (a = b)) := by
  unfold incunableref00_EqBytes.f
  by_cases h : a.length = b.length
  · simp only [if_pos (show (a.length : Int) = (b.length : Int) by omega)]
    have := eq_loop a b h hn a.length 0 (by omega)
    simpa using this
  · simp only [if_neg (show ¬ (a.length : Int) = (b.length : Int) by omega)]
    rw [show decide (a = b) = false from decide_eq_false (fun e => h (by rw [e]))]
    exact Ev.now _
theorem same_ev (a b : List Int) (h : a = b) (hn : a.length ≤ 9223372036854775800) : Ev (fun k => incunableref00_EqBytes.f k a b) true := by
  have := eq_ev a b hn
  rwa [decide_eq_true h] at this
theorem copy_some (l : List Int) (h : l.length < 225179981368000) : incunableref00_CopyBytes.f l = some l := by
  unfold incunableref00_CopyBytes.f
  rw [if_pos (by simp; omega)]; simp
theorem clone_some (l : List Int) (h : l.length < 225179981368000) : slices_Clone_byte_byte.f l = some l := by
  unfold slices_Clone_byte_byte.f
  rw [if_pos h]

/-! ### a number written -/
theorem byte_or (n : Nat) : Go.bits .or .u8 ((n : Int) % 256) 128 = ((n % 128 + 128 : Nat) : Int) := by
  rw [show (n : Int) % 256 = ((n % 256 : Nat) : Int) by omega]
  have h : ∀ b : Fin 256, b.val ||| 128 = b.val % 128 + 128 := by decide +kernel
  have h2 : Go.bits .or .u8 ((n % 256 : Nat) : Int) 128 = ((n % 256 ||| 128 : Nat) : Int) := u8_or_nat _ 128 (by omega) (by omega)
  rw [h2, h ⟨n % 256, by omega⟩]
  simp only []
  omega
theorem num_loop (d : Nat) : ∀ (n : Nat) (p : List Int), n < 2 ^ (7 * (d + 1)) → p.length + d + 1 ≤ 100 → Ev (fun k => varnum_Num.l0 k (n : Int) p) (p ++ enc n, 0) := by
  induction d with
  | zero =>
    intro n p h hp
    have hn : n < 128 := by simpa using h
    refine Ev.step (f := fun k => _) (fun k => by simp only [varnum_Num.l0]; rfl) ?_
    refine ev_neg (by omega) (ev_pos (by omega) ?_)
    rw [enc_small n hn, show (n : Int) % 256 = (n : Int) by omega]
    exact Ev.now _
  | succ d ih =>
    intro n p h hp
    refine Ev.step (f := fun k => _) (fun k => by simp only [varnum_Num.l0]; rfl) ?_
    by_cases hn : n < 128
    · refine ev_neg (by omega) (ev_pos (by omega) ?_)
      rw [enc_small n hn, show (n : Int) % 256 = (n : Int) by omega]
      exact Ev.now _
    · refine ev_pos (by omega) (ev_pos (by omega) ?_)
      rw [byte_or, show (n : Int) / 128 = ((n / 128 : Nat) : Int) by omega]
      have := ih (n / 128) (p ++ [((n % 128 + 128 : Nat) : Int)]) (by
        rw [show 7 * (d + 1 + 1) = 7 * (d + 1) + 7 by omega, Nat.pow_add] at h
        omega) (by simp; omega)
      rw [enc_big n hn]
      simpa using this
/-- a number's bytes and the error -/
def numI (a : Int) : List Int × Int := if 0 ≤ a ∧ a ≤ 9007199254740991 then (enc a.toNat, 0) else ([], 2)
theorem numI_ok (n : Nat) (h : n ≤ 9007199254740991) : numI (n : Int) = (enc n, 0) := by
  unfold numI
  rw [if_pos (by omega), Int.toNat_natCast]
theorem num_ev (a : Int) : Ev (fun k => varnum_Num.f k a) (numI a) := by
  unfold varnum_Num.f numI
  by_cases h0 : a < 0
  · refine ev_pos h0 ?_
    rw [if_neg (by omega)]
    refine Ev.step (f := fun k => _) (fun k => by simp only [varnum_Num.j0]; rfl) ?_
    exact ev_pos (by trivial) (Ev.now _)
  · refine ev_neg h0 ?_
    refine Ev.step (f := fun k => _) (fun k => by simp only [varnum_Num.j0]; rfl) ?_
    by_cases h1 : a > 9007199254740991
    · rw [if_neg (by omega)]
      exact ev_pos (by simpa using h1) (Ev.now _)
    · rw [if_pos (by omega)]
      obtain ⟨n, rfl⟩ := Int.eq_ofNat_of_zero_le (show 0 ≤ a by omega)
      refine ev_neg (by simpa using h1) ?_
      have := num_loop 7 n [] (by omega) (by simp)
      simpa using this
theorem byte_more (b : Int) (h0 : 0 ≤ b) (h1 : b < 256) : (Go.bits .and .u8 b 128 = 0 ↔ b < 128) ∧ Go.bits .andNot .u8 b 128 = ((b.toNat % 128 : Nat) : Int) := by
  obtain ⟨n, rfl⟩ := Int.eq_ofNat_of_zero_le h0
  have h : ∀ b : Fin 256, (b.val &&& 128 = 0 ↔ b.val < 128) ∧ b.val &&& 127 = b.val % 128 := by decide +kernel
  have hn := h ⟨n, by omega⟩
  simp only at hn
  have e1 : Go.bits .and .u8 (n : Int) 128 = ((n &&& 128 : Nat) : Int) := u8_and_nat n 128 (by omega) (by omega)
  have e2 : Go.bits .andNot .u8 (n : Int) 128 = ((n &&& (255 - 128) : Nat) : Int) := u8_andNot_nat n 128 (by omega) (by omega)
  rw [e1, e2, Int.toNat_natCast, show 255 - 128 = 127 from rfl, hn.2]
  refine ⟨?_, rfl⟩
  have := hn.1
  omega
theorem pow_le56 (i : Nat) (hi : i ≤ 8) : 2 ^ (7 * i) ≤ 2 ^ 56 := Nat.pow_le_pow_right (by omega) (by omega)
theorem lay_or (acc x i : Nat) (hi : i < 8) (ha : acc < 2 ^ (7 * i)) (hx : x < 128) :
    Go.bits .or .i64 (acc : Int) (shl .i64 (wrap64 (x : Int)) (wrap64 (7 * (i : Int)))) = ((acc + 2 ^ (7 * i) * x : Nat) : Int) ∧ acc + 2 ^ (7 * i) * x < 2 ^ (7 * (i + 1)) := by
  have hp : acc + 2 ^ (7 * i) * x < 2 ^ (7 * (i + 1)) := by
    rw [show 7 * (i + 1) = 7 * i + 7 by omega, Nat.pow_add]
    have : 2 ^ (7 * i) * (x + 1) ≤ 2 ^ (7 * i) * 2 ^ 7 := Nat.mul_le_mul_left _ (by omega)
    rw [Nat.mul_add] at this
    omega
  have h56 := pow_le56 (i + 1) (by omega)
  refine ⟨?_, hp⟩
  rw [w64 (by omega) (by omega), w64 (by omega) (by omega)]
  unfold shl
  have hw : ∀ n : Int, 0 ≤ n → n < 2 ^ 63 → IntKind.i64.wrap n = n := fun n a b => by rw [IntKind.wrap_i64]; omega
  rw [show min (7 * (i : Int)).toNat IntKind.i64.bits = 7 * i by simp [IntKind.bits]; omega, show (x : Int) * 2 ^ (7 * i) = ((2 ^ (7 * i) * x : Nat) : Int) by rw [Nat.mul_comm (2 ^ (7 * i)) x]; simp, hw _ (by omega) (by
    have : 2 ^ (7 * i) * x < 2 ^ 56 := by omega
    have : ((2 ^ (7 * i) * x : Nat) : Int) < 2 ^ 56 := by exact_mod_cast this
    omega)]
  have hb := (bits_nat .i64 63 (by decide) hw acc (2 ^ (7 * i) * x) (by omega) (by omega)).2
  rw [hb, Nat.or_comm, ← Nat.two_pow_add_eq_or_of_lt ha x, Nat.add_comm]
theorem fin_zero (n s : Nat) (z : Bool) (hz : z = true) : fin n s z = if 1 < s then (0, 0, 4) else if 9007199254740991 < n then (0, 0, 4) else ((n : Int), (s : Int), 0) := by
  subst hz
  unfold fin
  by_cases h1 : 1 < s
  · simp [h1]
  · by_cases h2 : 9007199254740991 < n <;> simp [h1, h2]
theorem fin_more (n s : Nat) (z : Bool) (hz : z = false) : fin n s z = if 9007199254740991 < n then (0, 0, 4) else ((n : Int), (s : Int), 0) := by
  subst hz
  unfold fin
  by_cases h2 : 9007199254740991 < n <;> simp [h2]
theorem take_loop (l : List Int) (hB : BI l) (d : Nat) : ∀ (i acc : Nat), i + d = 8 → acc < 2 ^ (7 * i) → i ≤ l.length → Ev (fun k => varnum_take.l0 k l (acc : Int) (i : Int)) (out acc (2 ^ (7 * i)) i (raw d (l.drop i))) := by
  induction d with
  | zero =>
    intro i acc hi ha hl
    refine Ev.step (f := fun k => _) (fun k => by simp only [varnum_take.l0]; rfl) ?_
    refine ev_pos (by omega) ?_
    exact Ev.now _
  | succ d ih =>
    intro i acc hi ha hl
    refine Ev.step (f := fun k => _) (fun k => by simp only [varnum_take.l0]; rfl) ?_
    refine ev_neg (by omega) ?_
    by_cases hlt : i = l.length
    · refine ev_pos (by omega) ?_
      rw [List.drop_eq_nil_of_le (by omega)]
      exact Ev.now _
    · have hlt : i < l.length := by omega
      have hb := hB _ (List.getElem_mem hlt)
      obtain ⟨m1, m2⟩ := byte_more l[i] hb.1 hb.2
      obtain ⟨o1, o2⟩ := lay_or acc (l[i].toNat % 128) i (by omega) ha (by omega)
      refine ev_neg (by omega) (ev_pos (by omega) (ev_pos (by omega) ?_))
      rw [rd_at l i hlt, m2, o1]
      refine ev_pos (by rw [w64 (by omega) (by omega)]; omega) ?_
      rw [List.drop_eq_getElem_cons hlt, w64 (x := (i : Int) + 1) (by omega) (by omega)]
      by_cases h1 : l[i] < 128
      · refine ev_pos (m1.2 h1) ?_
        rw [show l[i].toNat % 128 = l[i].toNat by omega]
        simp only [raw, if_pos h1, out, if_pos]
        by_cases hz : l[i] = 0
        · refine ev_pos hz ?_
          rw [fin_zero _ _ _ (decide_eq_true hz)]
          by_cases h2 : 1 < i + 1
          · rw [if_pos h2]
            exact ev_pos (by omega) (Ev.now _)
          · rw [if_neg h2]
            refine ev_neg (by omega) ?_
            by_cases h3 : 9007199254740991 < acc + 2 ^ (7 * i) * l[i].toNat
            · rw [if_pos h3]; exact ev_pos (by omega) (Ev.now _)
            · rw [if_neg h3]; exact ev_neg (by omega) (ev_eq rfl (Ev.now _))
        · refine ev_neg hz ?_
          rw [fin_more _ _ _ (decide_eq_false hz)]
          by_cases h3 : 9007199254740991 < acc + 2 ^ (7 * i) * l[i].toNat
          · rw [if_pos h3]; exact ev_pos (by omega) (Ev.now _)
          · rw [if_neg h3]; exact ev_neg (by omega) (ev_eq rfl (Ev.now _))
      · refine ev_neg (fun h => h1 (m1.1 h)) ?_
        have := ih (i + 1) (acc + 2 ^ (7 * i) * (l[i].toNat % 128)) (by omega) o2 (by omega)
        refine ev_eq ?_ this
        simp only [raw, if_neg h1]
        by_cases hr : (raw d (l.drop (i + 1))).1 = 0
        · simp only [out, if_pos hr, if_pos]
          have e1 : acc + 2 ^ (7 * i) * (l[i].toNat % 128) + 2 ^ (7 * (i + 1)) * (raw d (l.drop (i + 1))).2.1 = acc + 2 ^ (7 * i) * (l[i].toNat - 128 + 128 * (raw d (l.drop (i + 1))).2.1) := by
            rw [show l[i].toNat % 128 = l[i].toNat - 128 by omega, show 7 * (i + 1) = 7 * i + 7 by omega, Nat.pow_add, Nat.mul_add, Nat.mul_assoc, Nat.add_assoc]
          rw [e1, show i + 1 + (raw d (l.drop (i + 1))).2.2.1 = i + ((raw d (l.drop (i + 1))).2.2.1 + 1) by omega]
        · simp only [out, if_neg hr]
theorem take_ev (l : List Int) (hB : BI l) : Ev (fun k => varnum_take.f k l) (tk l) := by
  unfold varnum_take.f tk
  have := take_loop l hB 8 0 0 (by omega) (by omega) (by omega)
  simpa using this
/-- number, what is left, error -/
def takeI (l : List Int) : Int × List Int × Int := if (tk l).2.2 = 0 then ((tk l).1, l.drop (tk l).2.1.toNat, 0) else (0, [], (tk l).2.2)
def textI (t : List Int) (most : Int) : List Int × Int := if most < 0 then ([], 2) else if (t.length : Int) > most then ([], 5) else (enc t.length ++ t, 0)
theorem text_ev (t : List Int) (most : Int) (hn : t.length ≤ 140737488355300) : Ev (fun k => varnum_Text.f k t most) (textI t most) := by
  unfold varnum_Text.f textI
  by_cases h0 : most < 0
  · rw [if_pos h0]; exact ev_pos h0 (Ev.now _)
  · rw [if_neg h0]
    refine ev_neg h0 ?_
    by_cases h1 : (t.length : Int) > most
    · rw [if_pos h1]; exact ev_pos h1 (Ev.now _)
    · rw [if_neg h1]
      refine ev_neg h1 ?_
      refine Ev.bind (f := fun k t => _) (num_ev _) ?_
      rw [numI_ok _ (by omega)]
      have := enc_le8 t.length (by omega)
      exact ev_pos rfl (ev_pos (by show (enc t.length).length + _ < _; omega) (Ev.now _))
def takeTextI (l : List Int) (most : Int) : List Int × List Int × Int :=
  if most < 0 then ([], [], 2) else if (takeI l).2.2 = 0 then (if (takeI l).1 > most then ([], [], 5) else if (takeI l).1 > ((takeI l).2.1.length : Int) then ([], [], 3) else ((takeI l).2.1.take (takeI l).1.toNat, (takeI l).2.1.drop (takeI l).1.toNat, 0)) else ([], [], (takeI l).2.2)
theorem takeI_ok (l : List Int) (n s : Nat) (h : tk l = ((n : Int), (s : Int), 0)) : takeI l = ((n : Int), l.drop s, 0) := by
  unfold takeI
  rw [h]; simp
theorem takeI_err (l : List Int) (e : Int) (h : tk l = (0, 0, e)) (he : ¬ e = 0) : takeI l = (0, [], e) := by
  unfold takeI
  rw [h]; simp [he]
theorem takeText_ev (l : List Int) (most : Int) (hB : BI l) (hn : l.length < 225179981368000) : Ev (fun k => varnum_TakeText.f k l most) (takeTextI l most) := by
  unfold varnum_TakeText.f takeTextI
  by_cases h0 : most < 0
  · rw [if_pos h0]; exact ev_pos h0 (Ev.now _)
  · rw [if_neg h0]
    refine ev_neg h0 ?_
    refine Ev.bind (f := fun k t => _) (take_ev l hB) ?_
    rcases tk_spec l with ⟨n, s, h1, h2, h3, h4, _⟩ | h1 | h1
    · rw [takeI_ok l n s h1, h1]
      refine ev_pos rfl ?_
      rw [if_pos rfl]
      dsimp only
      by_cases h5 : (n : Int) > most
      · simp only [if_pos h5]; exact Ev.now _
      · simp only [if_neg h5]
        have e1 : wrap64 ((l.length : Int) - (s : Int)) = ((l.drop s).length : Int) := by rw [w64 (by omega) (by omega), List.length_drop]; omega
        have e2 : wrap64 ((s : Int) + (n : Int)) = ((s + n : Nat) : Int) := by rw [w64 (by omega) (by omega)]; omega
        simp only [e1, e2]
        by_cases h6 : (n : Int) > ((l.drop s).length : Int)
        · simp only [if_pos h6]; exact Ev.now _
        · simp only [if_neg h6]
          have h7 : s + n ≤ l.length := by rw [List.length_drop] at h6; omega
          refine ev_pos (by omega) (ev_pos (by omega) (ev_pos (by omega) ?_))
          simp only [Int.toNat_natCast]
          refine ev_some (f := fun k t => _) (clone_some _ (by simp; omega)) (ev_pos (by omega) ?_)
          refine ev_some (f := fun k t => _) (clone_some _ (by simp; omega)) (ev_eq ?_ (Ev.now _))
          rw [List.drop_take, List.drop_drop, show s + n - s = n by omega]
    · rw [takeI_err l 3 h1 (by decide), h1]
      refine ev_neg (by decide) ?_
      rw [if_neg (by decide)]
      exact Ev.now _
    · rw [takeI_err l 4 h1 (by decide), h1]
      refine ev_neg (by decide) ?_
      rw [if_neg (by decide)]
      exact Ev.now _
theorem takeI_range (l : List Int) : 0 ≤ (takeI l).1 ∧ (takeI l).1 ≤ 9007199254740991 ∧ (takeI l).2.1.length ≤ l.length := by
  rcases tk_spec l with ⟨n, s, h1, h2, h3, h4, _⟩ | h1 | h1
  · rw [takeI_ok l n s h1]
    refine ⟨by simp, by simp; omega, by simp⟩
  · rw [takeI_err l 3 h1 (by decide)]; simp
  · rw [takeI_err l 4 h1 (by decide)]; simp
theorem textI_ok (t : List Int) (most : Int) (h : (t.length : Int) ≤ most) : textI t most = (enc t.length ++ t, 0) := by
  unfold textI
  rw [if_neg (by omega), if_neg (by omega)]
theorem takeTextI_of (l : List Int) (most : Int) (n s : Nat) (h : tk l = ((n : Int), (s : Int), 0)) (h0 : 0 ≤ most) :
    takeTextI l most = if (n : Int) > most then ([], [], 5) else if (n : Int) > ((l.drop s).length : Int) then ([], [], 3) else ((l.drop s).take n, (l.drop s).drop n, 0) := by
  unfold takeTextI
  rw [if_neg (by omega), takeI_ok l n s h, if_pos rfl]
  simp only [Int.toNat_natCast]
theorem takeTextI_bad (l : List Int) (most e : Int) (h : tk l = (0, 0, e)) (he : ¬ e = 0) (h0 : 0 ≤ most) : takeTextI l most = ([], [], e) := by
  unfold takeTextI
  rw [if_neg (by omega), takeI_err l e h he, if_neg he]
theorem takeTextI_enc (t r : List Int) (most : Int) (h : (t.length : Int) ≤ most) (hn : t.length ≤ 9007199254740991) : takeTextI (enc t.length ++ (t ++ r)) most = (t, r, 0) := by
  rw [takeTextI_of _ most _ _ (tk_enc t.length (t ++ r) hn) (by omega), if_neg (by omega), if_neg (by simp; omega)]
  simp
theorem takeTextI_cut (t : List Int) (most : Int) (c : Nat) (hc : c < (enc t.length ++ t).length) (h : (t.length : Int) ≤ most) (hn : t.length ≤ 9007199254740991) : takeTextI ((enc t.length ++ t).take c) most = ([], [], 3) := by
  by_cases h1 : c < (enc t.length).length
  · rw [List.take_append_of_le_length (by omega)]
    exact takeTextI_bad _ most 3 (tk_cut _ c h1 hn) (by decide) (by omega)
  · rw [List.take_append, List.take_of_length_le (by omega), takeTextI_of _ most _ _ (tk_enc t.length _ hn) (by omega), if_neg (by omega), if_pos (by
      rw [List.length_append] at hc
      simp; omega)]

def nat (l : List Int) : List Nat := l.map Int.toNat
theorem nat_B {l : List Int} (h : BI l) : Crc.B (nat l) := by
  intro c hc
  obtain ⟨x, hx, rfl⟩ := List.mem_map.1 hc
  have := h x hx
  omega
theorem nat_append (a b : List Int) : nat (a ++ b) = nat a ++ nat b := by simp [nat]
theorem rd_nat {l : List Int} (h : BI l) (i : Nat) (hi : i < l.length) : rd l (i : Int) = (((nat l)[i]'(by simpa [nat] using hi) : Nat) : Int) ∧ (nat l)[i]'(by simpa [nat] using hi) < 256 := by
  have hx := h l[i] (List.getElem_mem hi)
  simp only [rd, Int.toNat_natCast, List.getD_eq_getElem?_getD, List.getElem?_eq_getElem hi, Option.getD_some, nat, List.getElem_map]
  omega
theorem wf_u32 {x : Int} (h : (Lit.int .u32 x).wf = true) : 0 ≤ x ∧ x < 4294967296 := by
  simp only [Lit.wf, Bool.and_eq_true, decide_eq_true_eq] at h
  have h1 : IntKind.u32.min = 0 := rfl
  have h2 : IntKind.u32.max = 4294967295 := rfl
  omega
theorem bit_step (x : Nat) (hx : x < 4294967296) :
    (Go.bits .and .u32 (x : Int) 1 = 1 ↔ x % 2 = 1) ∧ Go.bits .xor .u32 ((x : Int) / 2) 3988292384 = ((x / 2 ^^^ 3988292384 : Nat) : Int) := by
  constructor
  · rw [u32_and (x : Int) 1 (by omega) (by omega) (by omega) (by omega)]
    simp only [Int.toNat_natCast, show (1 : Int).toNat = 1 from rfl, Nat.and_one_is_mod]
    omega
  · rw [show (x : Int) / 2 = ((x / 2 : Nat) : Int) by omega]
    exact u32_xor_nat (x / 2) 3988292384 (by omega) (by omega)
theorem t_of (x : Nat) : Crc.t x = if x % 2 = 1 then x / 2 ^^^ 3988292384 else x / 2 := by
  unfold Crc.t; split <;> simp
theorem roll_loop (d : Nat) : ∀ (i x : Nat), i + d = 8 → x < 4294967296 → Ev (fun k => crc_roll.l0 k (x : Int) (i : Int)) ((Crc.tn d x : Nat) : Int) := by
  induction d with
  | zero =>
    intro i x hi hx
    refine Ev.step (f := fun _ => some (x : Int)) (fun k => ?_) (Ev.now _)
    simp only [crc_roll.l0]
    rw [if_neg (by omega)]
  | succ d ih =>
    intro i x hi hx
    obtain ⟨h1, h2⟩ := bit_step x hx
    refine Ev.step (f := fun k => crc_roll.l0 k ((Crc.t x : Nat) : Int) ((i + 1 : Nat) : Int)) (fun k => ?_) (ih (i + 1) (Crc.t x) (by omega) (Crc.t_lt x hx))
    simp only [crc_roll.l0]
    rw [if_pos (by omega), h2, w64 (by omega) (by omega), t_of]
    by_cases hb : x % 2 = 1
    · rw [if_pos (h1.2 hb), if_pos hb]; rfl
    · rw [if_neg (fun h => hb (h1.1 h)), if_neg hb, show (x : Int) / 2 = ((x / 2 : Nat) : Int) by omega]; rfl
theorem roll_ev (c : Nat) (hc : c < 256) : Ev (fun k => crc_roll.f k (c : Int)) ((Crc.tn 8 c : Nat) : Int) := by
  unfold crc_roll.f
  rw [show ((c : Int) % 4294967296) = (c : Int) by omega]
  exact roll_loop 8 0 c (by omega) (by omega)
/-- Eight bits at once: the byte that falls out, and what is left. -/
theorem tk_parts (s c : Nat) (hc : c < 256) : Crc.tk s c = s / 256 ^^^ Crc.tn 8 ((s % 256) ^^^ c) := by
  unfold Crc.tk
  have h := Crc.xor_add (s % 256) (s / 256) (by omega)
  rw [show s % 256 + 256 * (s / 256) = s by omega] at h
  calc Crc.tn 8 (s ^^^ c) = Crc.tn 8 ((2 ^ 8 * (s / 256)) ^^^ ((s % 256) ^^^ c)) := by
        congr 1
        conv => lhs; rw [h]
        rw [Nat.xor_assoc]
    _ = _ := by rw [Crc.tn_xor, Crc.tn_shift]
theorem on_loop (l : List Int) (hl : BI l) (hn : l.length ≤ 9223372036854775800) (d : Nat) : ∀ (i s : Nat), i + d = l.length → s < 4294967296 →
    Ev (fun k => crc_On.l0 k (s : Int) l (i : Int)) ((4294967295 ^^^ Crc.run s ((nat l).drop i) : Nat) : Int) := by
  induction d with
  | zero =>
    intro i s hi hs
    refine Ev.step (f := fun _ => some ((4294967295 ^^^ Crc.run s ((nat l).drop i) : Nat) : Int)) (fun k => ?_) (Ev.now _)
    simp only [crc_On.l0]
    rw [if_neg (by omega), u32_xor _ _ (by omega) (by omega) (by omega) (by omega), List.drop_eq_nil_of_le (by simp [nat]; omega)]
    simp [Crc.run]
  | succ d ih =>
    intro i s hi hs
    have hlt : i < l.length := by omega
    obtain ⟨h1, h2⟩ := rd_nat hl i hlt
    have hlt' : i < (nat l).length := by simpa [nat] using hlt
    generalize hc : (nat l)[i]'hlt' = c at h1 h2
    have hx : Go.bits .xor .u8 ((s : Int) % 256) (c : Int) = ((s % 256 ^^^ c : Nat) : Int) := by
      rw [show (s : Int) % 256 = ((s % 256 : Nat) : Int) by omega]
      exact u8_xor_nat _ _ (by omega) (by omega)
    have hxl : s % 256 ^^^ c < 256 := Nat.xor_lt_two_pow (n := 8) (by omega) (by omega)
    have htn : Crc.tn 8 (s % 256 ^^^ c) < 4294967296 := Crc.tn_lt _ _ (by omega)
    have hy : Go.bits .xor .u32 ((s : Int) / 256) ((Crc.tn 8 (s % 256 ^^^ c) : Nat) : Int) = ((Crc.tk s c : Nat) : Int) := by
      rw [show (s : Int) / 256 = ((s / 256 : Nat) : Int) by omega, tk_parts s c h2]
      exact u32_xor_nat _ _ (by omega) (by omega)
    refine Ev.step (f := fun k => (crc_roll.f k ((s % 256 ^^^ c : Nat) : Int)).bind fun t => crc_On.l0 k (Go.bits .xor .u32 ((s : Int) / 256) t) l ((i + 1 : Nat) : Int)) (fun k => ?_) ?_
    · simp only [crc_On.l0]
      rw [if_pos (by omega), if_pos (by omega), h1, hx, w64 (by omega) (by omega)]; rfl
    · refine Ev.bind (f := fun k t => crc_On.l0 k (Go.bits .xor .u32 ((s : Int) / 256) t) l ((i + 1 : Nat) : Int)) (roll_ev _ hxl) ?_
      simp only [hy]
      have := ih (i + 1) (Crc.tk s c) (by omega) (Crc.tk_lt s c hs h2)
      rw [List.drop_eq_getElem_cons hlt', hc]
      exact this
/-- On's answer. -/
def onI (a : Int) (l : List Int) : Int := ((Crc.on a.toNat (nat l) : Nat) : Int)
theorem onI_range (a : Int) (l : List Int) (h0 : 0 ≤ a) (h1 : a < 4294967296) (hl : BI l) : 0 ≤ onI a l ∧ onI a l < 4294967296 := by
  have := Crc.on_lt a.toNat (nat l) (by omega) (nat_B hl)
  unfold onI; omega
theorem on_ev (a : Int) (l : List Int) (h0 : 0 ≤ a) (h1 : a < 4294967296) (hl : BI l) (hn : l.length ≤ 9223372036854775800) : Ev (fun k => crc_On.f k a l) (onI a l) := by
  obtain ⟨s, rfl⟩ := Int.eq_ofNat_of_zero_le h0
  unfold crc_On.f onI Crc.on
  have := on_loop l hl hn l.length 0 (4294967295 ^^^ s) (by omega) (Crc.not_lt s (by omega))
  rw [u32_xor _ _ (by omega) (by omega) (by omega) (by omega)]
  simpa using this
theorem of_ev (l : List Int) (hl : BI l) (hn : l.length ≤ 9223372036854775800) : Ev (fun k => crc_Of.f k l) (onI 0 l) := by
  unfold crc_Of.f
  exact Ev.bind (f := fun _ t => some t) (on_ev 0 l (by omega) (by omega) hl hn) (Ev.now _)
theorem onI_append (a : Int) (x y : List Int) (h0 : 0 ≤ a) (h1 : a < 4294967296) (hx : BI x) : onI (onI a x) y = onI a (x ++ y) := by
  unfold onI
  rw [nat_append, Crc.on_append, Int.toNat_natCast]

theorem rd_row (l : List (List Int)) (i : Nat) (h : i < l.length) : rd_L2 l (i : Int) = l[i] := by
  unfold rd_L2
  rw [Int.toNat_natCast, List.getD_eq_getElem?_getD, List.getElem?_eq_getElem h, Option.getD_some]
theorem flat_succ (l : List (List Int)) (i : Nat) (h : i < l.length) : (l.take (i + 1)).flatten = (l.take i).flatten ++ l[i] := by
  rw [List.take_succ_eq_append_getElem h, List.flatten_append]
  simp
theorem flat_le (l : List (List Int)) (i : Nat) : (l.take i).flatten.length ≤ l.flatten.length := by
  have : l.flatten = (l.take i).flatten ++ (l.drop i).flatten := by rw [← List.flatten_append, List.take_append_drop]
  rw [this, List.length_append]; omega
theorem row_le (l : List (List Int)) (i : Nat) (h : i < l.length) : l[i].length ≤ l.flatten.length := by
  have h1 := flat_le l (i + 1)
  rw [flat_succ l i h, List.length_append] at h1
  omega
theorem concat_l1 (l : List (List Int)) (hn : l.length ≤ 1048576) (hs : l.flatten.length ≤ 1048576) (d : Nat) : ∀ i : Nat, i + d = l.length → Ev (fun k => slices_Concat_byte_byte.l1 k (l.take i).flatten l (l.length : Int) (i : Int)) l.flatten := by
  induction d with
  | zero =>
    intro i hi
    refine Ev.step (f := fun k => _) (fun k => by simp only [slices_Concat_byte_byte.l1]; rfl) ?_
    refine ev_neg (by omega) ?_
    rw [List.take_of_length_le (by omega)]
    exact Ev.now _
  | succ d ih =>
    intro i hi
    refine Ev.step (f := fun k => _) (fun k => by simp only [slices_Concat_byte_byte.l1]; rfl) ?_
    have h1 := flat_le l i
    have h2 := row_le l i (by omega)
    rw [rd_row l i (by omega)]
    refine ev_pos (by omega) (ev_pos (by omega) (ev_pos (by omega) (ev_pos (by omega) ?_)))
    rw [← flat_succ l i (by omega), w64 (by omega) (by omega)]
    exact ih (i + 1) (by omega)
theorem concat_l0 (l : List (List Int)) (hn : l.length ≤ 1048576) (hs : l.flatten.length ≤ 1048576) (d : Nat) : ∀ i : Nat, i + d = l.length → Ev (fun k => slices_Concat_byte_byte.l0 k l ((l.take i).flatten.length : Int) l (l.length : Int) (i : Int)) l.flatten := by
  induction d with
  | zero =>
    intro i hi
    refine Ev.step (f := fun k => _) (fun k => by simp only [slices_Concat_byte_byte.l0]; rfl) ?_
    have h1 := flat_le l i
    refine ev_neg (by omega) ?_
    refine ev_some (f := fun k t => _) (a := ([] : List Int)) (by unfold slices_Grow_byte_byte.f; rw [if_pos (by omega)]) ?_
    exact concat_l1 l hn hs l.length 0 (by omega)
  | succ d ih =>
    intro i hi
    refine Ev.step (f := fun k => _) (fun k => by simp only [slices_Concat_byte_byte.l0]; rfl) ?_
    have h1 := flat_le l i
    have h2 := row_le l i (by omega)
    rw [rd_row l i (by omega), w64 (x := (i : Int) + 1) (by omega) (by omega), w64 (by omega) (by omega)]
    refine ev_pos (by omega) (ev_pos (by omega) (ev_pos (by omega) (ev_neg (by omega) ?_)))
    have := ih (i + 1) (by omega)
    rw [flat_succ l i (by omega), List.length_append] at this
    exact_mod_cast this
theorem concat_ev (l : List (List Int)) (hn : l.length ≤ 1048576) (hs : l.flatten.length ≤ 1048576) : Ev (fun k => slices_Concat_byte_byte.f k l) l.flatten := concat_l0 l hn hs l.length 0 (by omega)
end Go.Proofs.Ytpmikaoheaefiaa.Pure
