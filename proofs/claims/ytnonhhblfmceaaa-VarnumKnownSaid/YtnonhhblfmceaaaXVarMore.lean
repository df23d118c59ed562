/- Texts; the statements' helpers; the chapter's examples. -/
import Derived.Test.YtnonhhblfmceaaaXx13
import Derived.Test.YtnonhhblfmceaaaXx8
import Derived.Test.YtnonhhblfmceaaaXx18
import Derived.Test.YtnonhhblfmceaaaXx15
import Derived.Test.YtnonhhblfmceaaaXx16
import Derived.Test.YtnonhhblfmceaaaXx10
import Derived.Test.YtnonhhblfmceaaaXVarFns
namespace Go.Proofs.Ytnonhhblfmceaaa.Pure
set_option linter.unusedVariables false
set_option linter.unusedSimpArgs false
open Go.RowKit Go.Proofs.Ytnonhhblfmceaaa.X Go.Proofs.YtnonhhblfmceaaaW.PrintWords Go.Proofs.YtnonhhblfmceaaaW.PrintLast Go.Proofs.YtnonhhblfmceaaaW.PrintMore

/-! ### texts -/
def textI (t : List Int) (most : Int) : List Int × Int := if most < 0 then ([], 2) else if (t.length : Int) > most then ([], 5) else (enc t.length ++ t, 0)
theorem text_ev (t : List Int) (most : Int) (hn : t.length ≤ 140737488355300) : Ev (fun k => varnum_Text.f k t most) (textI t most) := by
  unfold varnum_Text.f textI
  by_cases h0 : most < 0
  · rw [if_pos h0]; exact ev_pos h0 (Ev.now _)
  · rw [if_neg h0]
    refine ev_neg h0 ?_
    by_cases h1 : (t.length : Int) > most
    · rw [if_pos h1]; exact ev_pos h1 (Ev.now _)
    · rw [if_neg h1]
      refine ev_neg h1 ?_
      refine Ev.bind (f := fun k t => _) (num_ev _) ?_
      rw [numI_ok _ (by omega)]
      have := enc_le8 t.length (by omega)
      exact ev_pos rfl (ev_pos (by show (enc t.length).length + _ < _; omega) (Ev.now _))
theorem rtext_ev (t : List Int) (most : Int) (hn : t.length ≤ 140737488355300) : Ev (fun k => incunableref01_Text.f k t most) (textI t most) := by
  unfold incunableref01_Text.f textI
  by_cases h0 : most < 0
  · rw [if_pos h0]; exact ev_pos h0 (Ev.now _)
  · rw [if_neg h0]
    refine ev_neg h0 ?_
    by_cases h1 : (t.length : Int) > most
    · rw [if_pos h1]; exact ev_pos h1 (Ev.now _)
    · rw [if_neg h1]
      refine ev_neg h1 ?_
      refine Ev.bind (f := fun k t => _) (rnum_ev _) ?_
      rw [numI_ok _ (by omega)]
      have := enc_le8 t.length (by omega)
      exact ev_pos (by show (enc t.length).length + _ < _; omega) (Ev.now _)
def takeTextI (l : List Int) (most : Int) : List Int × List Int × Int :=
  if most < 0 then ([], [], 2) else if (takeI l).2.2 = 0 then (if (takeI l).1 > most then ([], [], 5) else if (takeI l).1 > ((takeI l).2.1.length : Int) then ([], [], 3) else ((takeI l).2.1.take (takeI l).1.toNat, (takeI l).2.1.drop (takeI l).1.toNat, 0)) else ([], [], (takeI l).2.2)
theorem takeI_ok (l : List Int) (n s : Nat) (h : tk l = ((n : Int), (s : Int), 0)) : takeI l = ((n : Int), l.drop s, 0) := by
  unfold takeI
  rw [h]; simp
theorem takeI_err (l : List Int) (e : Int) (h : tk l = (0, 0, e)) (he : ¬ e = 0) : takeI l = (0, [], e) := by
  unfold takeI
  rw [h]; simp [he]
theorem takeText_ev (l : List Int) (most : Int) (hB : BI l) (hn : l.length < 225179981368000) : Ev (fun k => varnum_TakeText.f k l most) (takeTextI l most) := by
  unfold varnum_TakeText.f takeTextI
  by_cases h0 : most < 0
  · rw [if_pos h0]; exact ev_pos h0 (Ev.now _)
  · rw [if_neg h0]
    refine ev_neg h0 ?_
    refine Ev.bind (f := fun k t => _) (take_ev l hB) ?_
    rcases tk_spec l with ⟨n, s, h1, h2, h3, h4, _⟩ | h1 | h1
    · rw [takeI_ok l n s h1, h1]
      refine ev_pos rfl ?_
      rw [if_pos rfl]
      dsimp only
      by_cases h5 : (n : Int) > most
      · simp only [if_pos h5]; exact Ev.now _
      · simp only [if_neg h5]
        have e1 : wrap64 ((l.length : Int) - (s : Int)) = ((l.drop s).length : Int) := by rw [w64 (by omega) (by omega), List.length_drop]; omega
        have e2 : wrap64 ((s : Int) + (n : Int)) = ((s + n : Nat) : Int) := by rw [w64 (by omega) (by omega)]; omega
        simp only [e1, e2]
        by_cases h6 : (n : Int) > ((l.drop s).length : Int)
        · simp only [if_pos h6]; exact Ev.now _
        · simp only [if_neg h6]
          have h7 : s + n ≤ l.length := by rw [List.length_drop] at h6; omega
          refine ev_pos (by omega) (ev_pos (by omega) (ev_pos (by omega) ?_))
          simp only [Int.toNat_natCast]
          refine ev_some (f := fun k t => _) (clone_some _ (by simp; omega)) (ev_pos (by omega) ?_)
          refine ev_some (f := fun k t => _) (clone_some _ (by simp; omega)) (ev_eq ?_ (Ev.now _))
          rw [List.drop_take, List.drop_drop, show s + n - s = n by omega]
    · rw [takeI_err l 3 h1 (by decide), h1]
      refine ev_neg (by decide) ?_
      rw [if_neg (by decide)]
      exact Ev.now _
    · rw [takeI_err l 4 h1 (by decide), h1]
      refine ev_neg (by decide) ?_
      rw [if_neg (by decide)]
      exact Ev.now _
theorem takeI_range (l : List Int) : 0 ≤ (takeI l).1 ∧ (takeI l).1 ≤ 9007199254740991 ∧ (takeI l).2.1.length ≤ l.length := by
  rcases tk_spec l with ⟨n, s, h1, h2, h3, h4, _⟩ | h1 | h1
  · rw [takeI_ok l n s h1]
    refine ⟨by simp, by simp; omega, by simp⟩
  · rw [takeI_err l 3 h1 (by decide)]; simp
  · rw [takeI_err l 4 h1 (by decide)]; simp
theorem rtakeText_ev (l : List Int) (most : Int) (hB : BI l) (hn : l.length < 225179981368000) : Ev (fun k => incunableref01_TakeText.f k l most) (takeTextI l most) := by
  unfold incunableref01_TakeText.f takeTextI
  by_cases h0 : most < 0
  · rw [if_pos h0]; exact ev_pos h0 (Ev.now _)
  · rw [if_neg h0]
    refine ev_neg h0 ?_
    refine Ev.bind (f := fun k t => _) (rtaken_ev l hB hn) ?_
    obtain ⟨r0, r1, r2⟩ := takeI_range l
    generalize takeI l = q at r0 r1 r2
    obtain ⟨n, r, e⟩ := q
    simp only at r0 r1 r2
    by_cases he : e = 0
    · refine ev_pos he ?_
      rw [if_pos he]
      dsimp only
      by_cases h5 : n > most
      · simp only [if_pos h5]; exact Ev.now _
      · simp only [if_neg h5]
        by_cases h6 : n > (r.length : Int)
        · simp only [if_pos h6]; exact Ev.now _
        · simp only [if_neg h6]
          refine ev_pos r0 (ev_pos (by omega) ?_)
          refine ev_some (f := fun k t => _) (copy_some _ (by simp; omega)) ?_
          exact ev_some (f := fun k t => _) (copy_some _ (by simp; omega)) (Ev.now _)
    · refine ev_neg he ?_
      rw [if_neg he]
      exact Ev.now _

/-! ### helpers -/
theorem spoil_loop (d : Nat) : ∀ (i : Nat) (l : List Int), i + d = l.length → l.length ≤ 9223372036854775800 → ∃ r, Ev (fun k => incunablelaw01_spoil.l0 k l (i : Int)) r := by
  induction d with
  | zero =>
    intro i l hi hl
    refine ⟨l, Ev.step (f := fun k => _) (fun k => by simp only [incunablelaw01_spoil.l0]; rfl) ?_⟩
    exact ev_neg (by omega) (Ev.now _)
  | succ d ih =>
    intro i l hi hl
    obtain ⟨r, hr⟩ := ih (i + 1) (l.set i ((rd l (i : Int) + 1) % 256)) (by rw [List.length_set]; omega) (by rw [List.length_set]; omega)
    refine ⟨r, Ev.step (f := fun k => _) (fun k => by simp only [incunablelaw01_spoil.l0]; rfl) ?_⟩
    refine ev_pos (by omega) (ev_pos (by omega) ?_)
    rw [w64 (by omega) (by omega), Int.toNat_natCast]
    exact hr
theorem spoil_ev (l : List Int) (hl : l.length ≤ 9223372036854775800) : ∃ r, Ev (fun k => incunablelaw01_spoil.f k l) r := spoil_loop l.length 0 l (by omega) hl
theorem bring_some (a n : Int) (h0 : -9223372036854775808 ≤ a) (h1 : a < 9223372036854775808) (hn : 0 < n) (hn1 : n < 9223372036854775808) : ∃ r, incunableref00_Bring.f a n = some r ∧ 0 ≤ r ∧ r < n := by
  unfold incunableref00_Bring.f
  rw [if_neg (by omega), if_neg (by omega)]
  have h2 : -n < Int.tmod a n ∧ Int.tmod a n < n := by
    have := Int.natAbs_tmod a n
    have h3 : Int.natAbs a % Int.natAbs n < Int.natAbs n := Nat.mod_lt _ (by omega)
    omega
  by_cases h : Int.tmod a n < 0
  · rw [if_pos h, w64 (by omega) (by omega)]
    exact ⟨_, rfl, by omega, by omega⟩
  · rw [if_neg h]
    exact ⟨_, rfl, by omega, by omega⟩
theorem number_some (a : Int) (h0 : -9223372036854775808 ≤ a) (h1 : a < 9223372036854775808) : ∃ n : Nat, incunablelaw01_number.f a = some (n : Int) ∧ n ≤ 9007199254740991 := by
  obtain ⟨r, hr, r0, r1⟩ := bring_some a 9007199254740992 h0 h1 (by omega) (by omega)
  obtain ⟨n, rfl⟩ := Int.eq_ofNat_of_zero_le r0
  refine ⟨n, ?_, by omega⟩
  unfold incunablelaw01_number.f
  rw [hr]; rfl
theorem is_ev (n : Nat) (l : List Int) (hn : n ≤ 9007199254740991) (h : enc n = l) : Ev (fun k => incunablelaw01_is.f k (n : Int) l) true := by
  subst h
  have h8 := enc_le8 n hn
  unfold incunablelaw01_is.f
  refine Ev.bind (f := fun k t => _) (num_ev _) ?_
  rw [numI_ok n hn]
  refine ev_some (f := fun k t => _) (copy_some _ (by omega)) (ev_pos (by omega) ?_)
  refine Ev.bind (f := fun k t => _) (taken_ev _ (BI_append (enc_BI n n (by omega)) (BI_of _ (by decide))) (by simp; omega)) ?_
  rw [takeI_ok _ n _ (tk_enc n [9] hn)]
  refine ev_pos rfl ?_
  refine Ev.bind (f := fun k t => _) (same_ev _ _ rfl (by show (enc n).length ≤ _; omega)) (ev_pos rfl (ev_pos rfl (ev_pos rfl ?_)))
  exact Ev.bind (f := fun _ t => some t) (same_ev _ _ (by simp) (by simp)) (Ev.now _)
theorem fails_ev (e : Int) (l : List Int) (hB : BI l) (hn : l.length ≤ 100) (h : takeI l = (0, [], e)) : Ev (fun k => incunablelaw01_fails.f k e l) true := by
  unfold incunablelaw01_fails.f
  refine Ev.bind (f := fun k t => _) (taken_ev l hB (by omega)) ?_
  rw [h]
  exact ev_pos rfl (ev_pos rfl (Ev.now _))
theorem enc_128 : enc 128 = [128, 1] := by rw [enc_big _ (by omega), enc_small _ (by omega)]; rfl
theorem enc_300 : enc 300 = [172, 2] := by rw [enc_big _ (by omega), enc_small _ (by omega)]; rfl
theorem works_ev : Ev (fun k => incunablelaw01_works.f k) true := by
  unfold incunablelaw01_works.f
  have t1 : textI [97, 98] 2 = ([2, 97, 98], 0) := by
    unfold textI
    rw [if_neg (by decide), if_neg (by decide), show ([97, 98] : List Int).length = 2 from rfl, enc_small 2 (by omega)]; rfl
  refine Ev.bind (f := fun k t => _) (text_ev _ _ (by decide)) ?_
  refine Ev.bind (f := fun k t => _) (takeText_ev _ _ (BI_of _ (by decide)) (by decide)) ?_
  rw [t1, show takeTextI [2, 97, 98, 99] 2 = ([97, 98], [99], 0) by decide]
  refine Ev.bind (f := fun k t => _) (is_ev 0 [0] (by omega) (enc_small 0 (by omega))) (ev_pos rfl ?_)
  refine Ev.bind (f := fun k t => _) (is_ev 127 [127] (by omega) (enc_small 127 (by omega))) (ev_pos rfl ?_)
  refine Ev.bind (f := fun k t => _) (is_ev 128 [128, 1] (by omega) enc_128) (ev_pos rfl ?_)
  refine Ev.bind (f := fun k t => _) (is_ev 300 [172, 2] (by omega) enc_300) (ev_pos rfl ?_)
  refine Ev.bind (f := fun k t => _) (fails_ev 4 [128, 0] (BI_of _ (by decide)) (by decide) (by decide)) (ev_pos rfl ?_)
  refine Ev.bind (f := fun k t => _) (fails_ev 3 [128] (BI_of _ (by decide)) (by decide) (by decide)) (ev_pos rfl (ev_pos rfl ?_))
  refine Ev.bind (f := fun k t => _) (same_ev _ _ rfl (by decide)) (ev_pos rfl (ev_pos rfl (ev_pos (by decide +kernel) ?_)))
  exact ev_eq (by decide +kernel) (Ev.now _)
theorem enc_mono (m : Nat) : ∀ n, n ≤ m → (enc n).length ≤ (enc m).length := by
  induction m using Nat.strongRecOn with
  | _ m ih =>
    intro n h
    by_cases hn : n < 128
    · rw [enc_small n hn]; exact enc_pos m
    · rw [enc_big n hn, enc_big m (by omega), List.length_cons, List.length_cons]
      have := ih (m / 128) (by omega) (n / 128) (by omega)
      omega
theorem enc_len (s : Nat) : ∀ n, n < 2 ^ (7 * (s + 1)) → (s = 0 ∨ 2 ^ (7 * s) ≤ n) → (enc n).length = s + 1 := by
  induction s with
  | zero => intro n h _; rw [enc_small n (by simpa using h)]; rfl
  | succ s ih =>
    intro n h hs
    have hs : 2 ^ (7 * (s + 1)) ≤ n := by omega
    have h128 : 128 ≤ 2 ^ (7 * (s + 1)) := Nat.pow_le_pow_right (n := 2) (i := 7) (by omega) (by omega)
    rw [enc_big n (by omega), List.length_cons, ih (n / 128)]
    · rw [show 7 * (s + 1 + 1) = 7 * (s + 1) + 7 by omega, Nat.pow_add] at h
      omega
    · right
      rw [show 7 * (s + 1) = 7 * s + 7 by omega, Nat.pow_add] at hs
      omega
end Go.Proofs.Ytnonhhblfmceaaa.Pure
