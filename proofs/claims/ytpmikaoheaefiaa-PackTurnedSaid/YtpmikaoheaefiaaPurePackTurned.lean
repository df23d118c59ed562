/- PackTurned: if some bits of a pack are turned, all within 32 that stand one behind the other, it is none any more: for all lists of bytes, places and bits that a machine can hold. -/
import Derived.Test.YtpmikaoheaefiaaXx25
import Derived.Test.YtpmikaoheaefiaaXPkB
import Derived.Test.YtpmikaoheaefiaaXPkC
import Derived.Test.YtpmikaoheaefiaaXrPackTurned
namespace Go.Proofs.Ytpmikaoheaefiaa.Pure
set_option linter.unusedVariables false
set_option linter.unusedSimpArgs false
open Go.RowKit Go.Proofs.Ytpmikaoheaefiaa.X Go.Proofs.YtpmikaoheaefiaaW.PrintWords Go.Proofs.YtpmikaoheaefiaaW.PrintLast Go.Proofs.YtpmikaoheaefiaaW.PrintMore

theorem seal_sum (x : List Int) (hx : BI x) : onI 0 (x ++ fourI (onI 0 x)) = 558161692 := by
  rw [← onI_append 0 x _ (by omega) (by omega) hx]
  have h := onI0_range x hx
  generalize onI 0 x = s at h
  unfold onI
  rw [nat_fourI s h.1, Crc.residue s.toNat (by omega)]
  rfl
theorem ok_sum (b : List Int) (hB : BI b) (h : (unpackI b).2.2 = 0) : onI 0 b = 558161692 := by
  obtain ⟨_, h1, _⟩ := unpackI_cases b h
  have h2 := seal_sum (b.take (b.length - 4)) (BI_take hB _)
  rw [← h1, List.take_append_drop] at h2
  exact h2
theorem turn_bad (b : List Int) (hB : BI b) (hb : (unpackI b).2.2 = 0) (q s m : Nat) (hq : q < b.length) (hs : s < 8) (hm : m < 4294967296) (hlen : m * 2 ^ s < 2 ^ (8 * (b.length - q))) :
    (unpackI (b.take q ++ layI (m * 2 ^ s) (b.drop q))).2.2 = 0 ↔ m = 0 := by
  have hBd := BI_drop hB q
  have hBt := BI_take hB q
  have hc := BI_append hBt (layI_BI (m * 2 ^ s) _ hBd)
  constructor
  · intro h
    have h1 := ok_sum _ hc h
    have h2 := ok_sum b hB hb
    have key := burst_iff 0 (nat (b.take q)) (nat (b.drop q)) (nat_B hBt) (nat_B hBd) (by omega) m s hm hs (by simp [nat]; omega)
    rw [← nat_layI _ _ hBd, ← nat_append, ← nat_append, List.take_append_drop] at key
    have h3 : Crc.on 0 (nat (b.take q ++ layI (m * 2 ^ s) (b.drop q))) = Crc.on 0 (nat b) := by
      have := h1.trans h2.symm
      unfold onI at this
      exact Int.ofNat_inj.1 this
    have h4 := nat_inj _ _ hc hB (key.1 h3)
    have h5 : layI (m * 2 ^ s) (b.drop q) = b.drop q := by
      have h6 := h4.trans (List.take_append_drop q b).symm
      exact List.append_cancel_left h6
    have h7 := layI_self (b.drop q) _ hBd (by rw [List.length_drop]; exact hlen) h5
    rcases Nat.mul_eq_zero.1 h7 with h8 | h8
    · exact h8
    · exact absurd h8 (Nat.pos_iff_ne_zero.1 (Nat.two_pow_pos s))
  · rintro rfl
    rw [Nat.zero_mul, layI_zero _ hBd, List.take_append_drop]
    exact hb
theorem mod_succ_add (n i : Nat) : n % 2 ^ (i + 1) = n % 2 ^ i + 2 ^ i * (n / 2 ^ i % 2) := by rw [Nat.pow_succ, Nat.mod_mul]
theorem rd_right (l r : List Int) (j : Nat) : rd (l ++ r) ((l.length + j : Nat) : Int) = rd r (j : Int) := by
  unfold rd
  rw [Int.toNat_natCast, Int.toNat_natCast, List.getD_eq_getElem?_getD, List.getD_eq_getElem?_getD, List.getElem?_append_right (by omega), Nat.add_sub_cancel_left]
theorem set_right (l r : List Int) (j : Nat) (x : Int) : (l ++ r).set (l.length + j) x = l ++ r.set j x := by
  rw [List.set_append_right _ _ (by omega), Nat.add_sub_cancel_left]
theorem shl_u8 (r : Nat) (hr : r < 8) : shl .u8 1 (r : Int) = ((2 ^ r : Nat) : Int) := by
  have h : 2 ^ r ≤ 2 ^ 7 := Nat.pow_le_pow_right (by omega) (by omega)
  unfold shl
  rw [show min (r : Int).toNat IntKind.u8.bits = r by simp [IntKind.bits]; omega, show (1 : Int) * 2 ^ r = ((2 ^ r : Nat) : Int) by simp]
  generalize 2 ^ r = z at h ⊢
  rw [IntKind.wrap_u8]
  omega
theorem bit_of (n i : Nat) (hn : n < 4294967296) (hi : i < 32) : Go.bits .and .u32 (shr .u32 (n : Int) (i : Int)) 1 = ((n / 2 ^ i % 2 : Nat) : Int) := by
  unfold shr
  rw [show min (i : Int).toNat IntKind.u32.bits = i by simp [IntKind.bits]; omega, show (n : Int) / 2 ^ i = ((n / 2 ^ i : Nat) : Int) by simp]
  have h : n / 2 ^ i < 4294967296 := Nat.lt_of_le_of_lt (Nat.div_le_self _ _) hn
  rw [show (1 : Int) = ((1 : Nat) : Int) from rfl, u32_and_nat _ 1 h (by omega), Nat.and_one_is_mod]
theorem lay_lt (n i s L q : Nat) (h : i + s ≤ 8 * (L - q)) : n % 2 ^ i * 2 ^ s < 2 ^ (8 * (L - q)) := by
  have h1 : n % 2 ^ i < 2 ^ i := Nat.mod_lt _ (Nat.two_pow_pos i)
  have h2 : n % 2 ^ i * 2 ^ s < 2 ^ i * 2 ^ s := Nat.mul_lt_mul_of_pos_right h1 (Nat.two_pow_pos s)
  rw [← Nat.pow_add] at h2
  exact Nat.lt_of_lt_of_le h2 (Nat.pow_le_pow_right (by omega) h)

theorem turn_stop (b : List Int) (hB : BI b) (hb : (unpackI b).2.2 = 0) (hL : b.length ≤ 262144) (n p i : Nat) (hp : p < 8 * b.length) (hi : i ≤ 32) (hpi : p + i ≤ 8 * b.length) (f : Bool) (hf : f = decide (n % 2 ^ i ≠ 0)) :
    Ev (fun k => incunablelaw03_PackTurned.j2 k (p : Int) (n : Int) (b.take (p / 8) ++ layI (n % 2 ^ i * 2 ^ (p % 8)) (b.drop (p / 8))) f (i : Int) false) true := by
  have hBd := BI_drop hB (p / 8)
  have hBt := BI_take hB (p / 8)
  have hc := BI_append hBt (layI_BI (n % 2 ^ i * 2 ^ (p % 8)) _ hBd)
  refine Ev.step (f := fun k => _) (fun k => by simp only [incunablelaw03_PackTurned.j2]; rfl) ?_
  refine ev_neg (by decide) ?_
  refine Ev.bind (f := fun k t => _) (unpack_ev _ hc (by rw [List.length_append, layI_length, List.length_take, List.length_drop]; omega)) ?_
  refine ev_eq ?_ (Ev.now _)
  have h32 : n % 2 ^ i < 4294967296 := Nat.lt_of_lt_of_le (Nat.mod_lt _ (Nat.two_pow_pos i)) (show 2 ^ i ≤ 2 ^ 32 from Nat.pow_le_pow_right (by omega) hi)
  have key := turn_bad b hB hb (p / 8) (p % 8) (n % 2 ^ i) (by omega) (by omega) h32 (lay_lt n i (p % 8) b.length (p / 8) (by omega))
  subst hf
  by_cases h : n % 2 ^ i = 0
  · have := key.2 h
    rw [this, h]
    decide
  · have h2 : ¬ (unpackI (b.take (p / 8) ++ layI (n % 2 ^ i * 2 ^ (p % 8)) (b.drop (p / 8)))).2.2 = 0 := fun e => h (key.1 e)
    rw [decide_eq_true h, beq_eq_false_iff_ne.2 h2]
    rfl
theorem turn_loop (b : List Int) (hB : BI b) (hb : (unpackI b).2.2 = 0) (hL : b.length ≤ 262144) (n p : Nat) (hn : n < 4294967296) (hp : p < 8 * b.length) (d : Nat) : ∀ i : Nat, i + d = 32 → p + i ≤ 8 * b.length → ∀ f : Bool, f = decide (n % 2 ^ i ≠ 0) →
    Ev (fun k => incunablelaw03_PackTurned.l0 k (p : Int) (n : Int) (b.take (p / 8) ++ layI (n % 2 ^ i * 2 ^ (p % 8)) (b.drop (p / 8))) f (i : Int)) true := by
  have hBd := BI_drop hB (p / 8)
  have hBt := BI_take hB (p / 8)
  have htl : (b.take (p / 8)).length = p / 8 := by rw [List.length_take]; omega
  induction d with
  | zero =>
    intro i hi hpi f hf
    refine Ev.step (f := fun k => _) (fun k => by simp only [incunablelaw03_PackTurned.l0]; rfl) ?_
    exact ev_neg (by omega) (turn_stop b hB hb hL n p i hp (by omega) hpi f hf)
  | succ d ih =>
    intro i hi hpi f hf
    have hcl : (b.take (p / 8) ++ layI (n % 2 ^ i * 2 ^ (p % 8)) (b.drop (p / 8))).length = b.length := by rw [List.length_append, layI_length, List.length_take, List.length_drop]; omega
    refine Ev.step (f := fun k => _) (fun k => by simp only [incunablelaw03_PackTurned.l0]; rfl) ?_
    refine ev_pos (by omega) ?_
    rw [hcl, w64 (x := (p : Int) + (i : Int)) (by omega) (by omega), w64 (x := 8 * (b.length : Int)) (by omega) (by omega)]
    by_cases hlt : p + i < 8 * b.length
    · rw [decide_eq_true (show (p : Int) + (i : Int) < 8 * (b.length : Int) by omega)]
      refine Ev.step (f := fun k => _) (fun k => by simp only [incunablelaw03_PackTurned.j2]; rfl) ?_
      refine ev_pos trivial (ev_pos (by omega) ?_)
      rw [bit_of n i hn (by omega)]
      by_cases h1 : n / 2 ^ i % 2 = 1
      · refine ev_pos (by rw [h1]; rfl) ?_
        have et : Int.tdiv ((p : Int) + (i : Int)) 8 = (((p + i) / 8 : Nat) : Int) := by rw [Int.tdiv_eq_ediv_of_nonneg (by omega)]; omega
        have em : Int.tmod ((p : Int) + (i : Int)) 8 = (((p + i) % 8 : Nat) : Int) := by rw [Int.tmod_eq_emod_of_nonneg (by omega)]; omega
        rw [w64 (x := (p : Int) + (i : Int)) (by omega) (by omega), et, em, w64 (x := (((p + i) / 8 : Nat) : Int)) (by omega) (by omega)]
        refine ev_pos (by omega) (ev_pos (by rw [hcl]; omega) (ev_pos (by omega) ?_))
        rw [Int.toNat_natCast, shl_u8 _ (by omega), w64 (x := (i : Int) + 1) (by omega) (by omega)]
        have hset : (b.take (p / 8) ++ layI (n % 2 ^ i * 2 ^ (p % 8)) (b.drop (p / 8))).set ((p + i) / 8) (Go.bits .xor .u8 (rd (b.take (p / 8) ++ layI (n % 2 ^ i * 2 ^ (p % 8)) (b.drop (p / 8))) (((p + i) / 8 : Nat) : Int)) ((2 ^ ((p + i) % 8) : Nat) : Int)) = b.take (p / 8) ++ layI (n % 2 ^ (i + 1) * 2 ^ (p % 8)) (b.drop (p / 8)) := by
          rw [lay_succ n i (p % 8), if_pos h1, layI_xor _ _ _ hBd]
          have hl2 := layI_BI (n % 2 ^ i * 2 ^ (p % 8)) _ hBd
          have hll := layI_length (n % 2 ^ i * 2 ^ (p % 8)) (b.drop (p / 8))
          rw [List.length_drop] at hll
          generalize layI (n % 2 ^ i * 2 ^ (p % 8)) (b.drop (p / 8)) = D at hl2 hll
          rw [layI_pow D (i + p % 8) hl2 (by omega)]
          have e1 : (p + i) / 8 = (b.take (p / 8)).length + (i + p % 8) / 8 := by rw [htl]; omega
          rw [e1, rd_right, set_right, show (p + i) % 8 = (i + p % 8) % 8 by omega]
        rw [hset]
        refine ih (i + 1) (by omega) (by omega) true ?_
        have := mod_succ_add n i
        rw [h1] at this
        have h2 := Nat.two_pow_pos i
        rw [decide_eq_true (by omega)]
      · refine ev_neg (by have : n / 2 ^ i % 2 = 0 := by omega
                          rw [this]; decide) ?_
        have e2 : n % 2 ^ (i + 1) = n % 2 ^ i := by have := mod_succ_add n i; rw [show n / 2 ^ i % 2 = 0 by omega] at this; omega
        rw [w64 (x := (i : Int) + 1) (by omega) (by omega), ← e2]
        exact ih (i + 1) (by omega) (by omega) f (by rw [e2]; exact hf)
    · rw [decide_eq_false (show ¬ (p : Int) + (i : Int) < 8 * (b.length : Int) by omega)]
      exact turn_stop b hB hb hL n p i hp (by omega) hpi f hf
theorem PackTurned : incunablelaw03_PackTurned.Pure := by
  intro l a n hlm hl24 hrl hw ha hn
  obtain ⟨a0, a1⟩ := wf_i64 ha
  obtain ⟨n0, n1⟩ := wf_u32 hn
  obtain ⟨n, rfl⟩ := Int.eq_ofNat_of_zero_le n0
  have hB : ∀ r ∈ l, BI r := fun r hr => BI_wf (hw r hr)
  refine Ev.rounds ?_
  unfold incunablelaw03_PackTurned.f
  refine Ev.bind (f := fun k t => _) works_ev (ev_pos rfl ?_)
  refine Ev.bind (f := fun k t => _) (made_ev l (fun r hr => by have := hrl r hr; omega)) ?_
  obtain ⟨h1, h2, h3, h4, h5⟩ := madeI_pack l hB ((l.length : Int) % 256) (by omega) (by omega)
  obtain ⟨w1, w2, _⟩ := whole_parts _ h3
  refine Ev.bind (f := fun k t => _) h5 (ev_pos rfl ?_)
  dsimp only
  generalize sealI (packB ((l.length : Int) % 256) (madeI l)) = b at h2 h3 h4 w1 w2
  have hb : (unpackI b).2.2 = 0 := by rw [h2]
  refine Ev.step (f := fun k => _) (fun k => by simp only [incunablelaw03_PackTurned.j0]; rfl) ?_
  refine ev_neg (by intro h; have := beq_iff_eq.1 h; omega) ?_
  rw [w64 (x := 8 * (b.length : Int)) (by omega) (by omega)]
  obtain ⟨p, hp, p0, p1⟩ := bring_some a (8 * (b.length : Int)) a0 a1 (by omega) (by omega)
  obtain ⟨p, rfl⟩ := Int.eq_ofNat_of_zero_le p0
  refine ev_some (f := fun k t => _) hp ?_
  have := turn_loop b h4 hb w2 n p (by omega) (by omega) 32 0 (by omega) (by omega) false (by simp [Nat.mod_one])
  rw [show n % 2 ^ 0 * 2 ^ (p % 8) = 0 by simp [Nat.mod_one], layI_zero _ (BI_drop h4 _), List.take_append_drop] at this
  exact this
end Go.Proofs.Ytpmikaoheaefiaa.Pure
