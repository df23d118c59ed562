/- CrcPlaces: two neighbours that change places change the sum unless they are the same: for all bytes that a machine can hold, and any place. -/
import Derived.Test.YtimpejljlnnlaaaXx15
import Derived.Test.YtimpejljlnnlaaaXCrcMore
namespace Go.Proofs.Ytimpejljlnnlaaa.Pure
set_option linter.unusedVariables false
open Go.RowKit Go.Proofs.Ytimpejljlnnlaaa.X Go.Proofs.YtimpejljlnnlaaaW.PrintWords Go.Proofs.YtimpejljlnnlaaaW.PrintLast Go.Proofs.YtimpejljlnnlaaaW.PrintMore

theorem run_inj (s r : Nat) (l : List Nat) (hs : s < 4294967296) (hr : r < 4294967296) (hl : Crc.B l) (h : Crc.run s l = Crc.run r l) : s = r := by
  rw [← Crc.back_run s l hs hl, h, Crc.back_run r l hr hl]
theorem places_differ (p q : List Nat) (x y : Nat) (hp : Crc.B p) (hq : Crc.B q) (hx : x < 256) (hy : y < 256) (h : Crc.on 0 (p ++ y :: x :: q) = Crc.on 0 (p ++ x :: y :: q)) : x = y := by
  unfold Crc.on at h
  have h1 : Crc.run 4294967295 (p ++ y :: x :: q) = Crc.run 4294967295 (p ++ x :: y :: q) := by
    have := congrArg (fun z => 4294967295 ^^^ z) h
    simpa only [Crc.not_not, Nat.xor_zero] using this
  rw [Crc.run_append, Crc.run_append] at h1
  have hs := Crc.run_lt 4294967295 p (by omega) hp
  generalize Crc.run 4294967295 p = s at h1 hs
  have B2 : ∀ a b : Nat, a < 256 → b < 256 → Crc.B [a, b] := fun a b ha hb c hc => by
    simp only [List.mem_cons, List.not_mem_nil, or_false] at hc
    omega
  have e : ∀ a b, Crc.run s (a :: b :: q) = Crc.run (Crc.run s [a, b]) q := fun a b => rfl
  rw [e, e] at h1
  have h2 := run_inj _ _ q (Crc.run_lt s _ hs (B2 y x hy hx)) (Crc.run_lt s _ hs (B2 x y hx hy)) hq h1
  rw [Crc.run_word _ (B2 y x hy hx), Crc.run_word _ (B2 x y hx hy)] at h2
  have w : ∀ a b, Crc.word [a, b] = a + 256 * b := fun a b => by simp [Crc.word]
  rw [w, w] at h2
  have h3 := Crc.tn_inj 16 _ _ (Nat.xor_lt_two_pow (n := 32) (by omega) (by omega)) (Nat.xor_lt_two_pow (n := 32) (by omega) (by omega)) h2
  have h4 : s ^^^ (s ^^^ (y + 256 * x)) = s ^^^ (s ^^^ (x + 256 * y)) := by rw [h3]
  rw [← Nat.xor_assoc, Nat.xor_self, Nat.zero_xor, ← Nat.xor_assoc, Nat.xor_self, Nat.zero_xor] at h4
  omega
theorem two_at (l : List Int) (k : Nat) (hk : k + 1 < l.length) : l = l.take k ++ l[k] :: l[k + 1] :: l.drop (k + 2) := by
  conv => lhs; rw [← List.take_append_drop k l, List.drop_eq_getElem_cons (show k < l.length by omega), List.drop_eq_getElem_cons hk]
theorem set_two (p q : List Int) (x y u v : Int) : ((p ++ x :: y :: q).set p.length u).set (p.length + 1) v = p ++ u :: v :: q := by
  rw [List.set_append_right _ _ (by omega), List.set_append_right _ _ (by omega)]
  simp
theorem CrcPlaces_ev (l : List Int) (a : Int) (hB : BI l) (hn : l.length ≤ 140737488351232) (a0 : -9223372036854775808 ≤ a) (a1 : a < 9223372036854775808) : Ev (fun k => incunablelaw02_CrcPlaces.f k l a) true := by
  unfold incunablelaw02_CrcPlaces.f
  refine Ev.bind (f := fun k t => _) works_ev ?_
  refine ev_pos rfl ?_
  refine Ev.step (f := fun k => _) (fun k => by simp only [incunablelaw02_CrcPlaces.j0]; rfl) ?_
  by_cases h2 : (l.length : Int) < 2
  · refine ev_pos (by simpa using h2) ?_
    rw [show decide ((l.length : Int) < 2) = true from decide_eq_true h2]
    exact Ev.now _
  · refine ev_neg (by simpa using h2) ?_
    rw [w64 (by omega) (by omega)]
    obtain ⟨r, hr, r0, r1⟩ := bring_some a ((l.length : Int) - 1) a0 a1 (by omega) (by omega)
    obtain ⟨k0, rfl⟩ := Int.eq_ofNat_of_zero_le r0
    refine ev_some (f := fun k t => _) hr ?_
    refine ev_some (f := fun k t => _) (behind_some [] l (by simp; omega)) ?_
    simp only [List.nil_append]
    have hk : k0 + 1 < l.length := by omega
    have e1 : (wrap64 ((k0 : Int) + 1)) = ((k0 + 1 : Nat) : Int) := by rw [w64 (by omega) (by omega)]; rfl
    rw [e1]
    refine ev_pos (by omega) (ev_pos (by omega) (ev_pos (by omega) (ev_pos (by omega) ?_)))
    rw [rd_at l k0 (by omega), rd_at l (k0 + 1) hk, Int.toNat_natCast, Int.toNat_natCast]
    have hsp := two_at l k0 hk
    generalize hx : l[k0] = x at hsp
    generalize hy : l[k0 + 1] = y at hsp
    have hBx : 0 ≤ x ∧ x < 256 := hx ▸ hB _ (List.getElem_mem _)
    have hBy : 0 ≤ y ∧ y < 256 := hy ▸ hB _ (List.getElem_mem _)
    have hset : (l.set k0 y).set (k0 + 1) x = l.take k0 ++ y :: x :: l.drop (k0 + 2) := by
      have hp : (l.take k0).length = k0 := by rw [List.length_take]; omega
      have := set_two (l.take k0) (l.drop (k0 + 2)) x y y x
      rw [hp, ← hsp] at this
      exact this
    rw [hset]
    have hBc : BI (l.take k0 ++ y :: x :: l.drop (k0 + 2)) := BI_append (BI_take hB _) (BI_cons hBy.1 hBy.2 (BI_cons hBx.1 hBx.2 (BI_drop hB _)))
    have hlc : (l.take k0 ++ y :: x :: l.drop (k0 + 2)).length = l.length := by
      simp only [List.length_append, List.length_take, List.length_cons, List.length_drop]; omega
    refine Ev.bind (f := fun k t => _) (of_ev _ hBc (by omega)) ?_
    refine Ev.bind (f := fun k t => _) (of_ev l hB (by omega)) ?_
    refine ev_pos (by omega) (ev_pos (by omega) ?_)
    refine ev_eq ?_ (Ev.now _)
    rw [beq_iff_eq, Bool.eq_iff_iff, beq_iff_eq, beq_iff_eq]
    constructor
    · intro h
      unfold onI at h
      rw [hsp] at h
      have h' : Crc.on 0 (nat (l.take k0 ++ y :: x :: l.drop (k0 + 2))) = Crc.on 0 (nat (l.take k0 ++ x :: y :: l.drop (k0 + 2))) := by
        have e : ∀ a b : Nat, ((a : Nat) : Int) = ((b : Nat) : Int) → a = b := fun a b hh => by omega
        apply e
        have hh := h
        rw [← hsp] at hh
        rw [← hsp]
        exact hh
      simp only [nat, List.map_append, List.map_cons] at h'
      have := places_differ _ _ _ _ (nat_B (BI_take hB k0)) (nat_B (BI_drop hB (k0 + 2))) (by omega) (by omega) h'
      omega
    · intro h
      rw [← h] at hsp
      rw [← h, ← hsp]
theorem CrcPlaces : incunablelaw02_CrcPlaces.Pure := by
  intro l a hm hl hw ha
  obtain ⟨a0, a1⟩ := wf_i64 ha
  exact Ev.rounds (CrcPlaces_ev l a (BI_wf hw) (by omega) a0 a1)
end Go.Proofs.Ytimpejljlnnlaaa.Pure
