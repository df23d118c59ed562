/- Bits turned in a frame: nothing is answered in its place. -/
import Derived.Test.YtkndghbognhocaaXFrC
import Derived.Test.YtkndghbognhocaaXFrWaits
import Derived.Test.YtkndghbognhocaaXx10
namespace Go.Proofs.Ytkndghbognhocaa.Pure
set_option linter.unusedVariables false
set_option linter.unusedSimpArgs false
open Go.RowKit Go.Proofs.Ytkndghbognhocaa.X Go.Proofs.YtkndghbognhocaaW.PrintWords Go.Proofs.YtkndghbognhocaaW.PrintLast Go.Proofs.YtkndghbognhocaaW.PrintMore
theorem nat_crc4 (l : List Int) (h : BI l) : nat (crc4 l) = Crc.four (onI 0 l).toNat := by
  have hr := onI_range 0 l (by omega) (by omega) h
  obtain ⟨s, hs⟩ := Int.eq_ofNat_of_zero_le hr.1
  unfold crc4 Crc.four nat
  rw [hs]
  simp only [List.map_cons, List.map_nil, Int.toNat_natCast]
  congr 1
theorem seal_sum (x : List Int) (hx : BI x) : onI 0 (sealL x) = 558161692 := by
  unfold sealL
  rw [← onI_append 0 x _ (by omega) (by omega) hx]
  have h := onI_range 0 x (by omega) (by omega) hx
  have h4 := nat_crc4 x hx
  generalize crc4 x = c at h4
  generalize onI 0 x = s at h h4
  unfold onI
  rw [h4, Crc.residue s.toNat (by omega)]
  rfl
theorem layI_take (l : List Int) : ∀ (n j : Nat), (layI n l).take j = layI n (l.take j) := by
  induction l with
  | nil => intro n j; simp [layI]
  | cons c l ih =>
    intro n j
    cases j with
    | zero => simp [layI]
    | succ j => rw [layI, List.take_succ_cons, List.take_succ_cons, layI, ih]
def turnL (b : List Int) (p m : Nat) : List Int := b.take (p / 8) ++ layI (m * 2 ^ (p % 8)) (b.drop (p / 8))
theorem turnL_length (b : List Int) (p m : Nat) : (turnL b p m).length = b.length := by
  rw [turnL, List.length_append, layI_length, List.length_take, List.length_drop]; omega
theorem turnL_BI {b : List Int} (h : BI b) (p m : Nat) : BI (turnL b p m) := BI_append (BI_take h _) (layI_BI _ _ (BI_drop h _))
theorem turnL_zero {b : List Int} (h : BI b) (p : Nat) : turnL b p 0 = b := by
  rw [turnL, Nat.zero_mul, layI_zero _ (BI_drop h _), List.take_append_drop]
theorem turnL_take (b : List Int) (p m j : Nat) : (turnL b p m).take j = turnL (b.take j) p m := by
  unfold turnL
  by_cases h : p / 8 ≤ b.length
  · have e : (b.take (p / 8)).length = p / 8 := by rw [List.length_take]; omega
    rw [List.take_append, e, layI_take, List.take_take, List.take_take, List.drop_take, Nat.min_comm]
  · rw [List.drop_eq_nil_of_le (show b.length ≤ p / 8 by omega), List.take_of_length_le (show b.length ≤ p / 8 by omega), List.drop_eq_nil_of_le (show (b.take j).length ≤ p / 8 by rw [List.length_take]; omega), List.take_of_length_le (show (b.take j).length ≤ p / 8 by rw [List.length_take]; omega)]
    simp [layI]
/-- equal sums: nothing has been turned -/
theorem turn_same (b : List Int) (hB : BI b) (p m : Nat) (hm : m < 4294967296) (h : onI 0 (turnL b p m) = onI 0 b) : turnL b p m = b := by
  have hBd := BI_drop hB (p / 8)
  have hBt := BI_take hB (p / 8)
  by_cases hq : p / 8 < b.length
  · have key := burst_iff 0 (nat (b.take (p / 8))) (nat (b.drop (p / 8))) (nat_B hBt) (nat_B hBd) (by omega) m (p % 8) hm (by omega) (by simp [nat]; omega)
    rw [← nat_layI _ _ hBd, ← nat_append, ← nat_append, List.take_append_drop] at key
    have h3 : Crc.on 0 (nat (turnL b p m)) = Crc.on 0 (nat b) := by
      unfold onI at h
      exact Int.ofNat_inj.1 h
    exact nat_inj _ _ (turnL_BI hB p m) hB (key.1 h3)
  · unfold turnL
    rw [List.drop_eq_nil_of_le (by omega), List.take_of_length_le (by omega)]
    simp [layI]
theorem turn_none (b : List Int) (hB : BI b) (p m : Nat) (hp : p < 8 * b.length) (hlen : m * 2 ^ (p % 8) < 2 ^ (8 * (b.length - p / 8))) (h : turnL b p m = b) : m = 0 := by
  have h5 : layI (m * 2 ^ (p % 8)) (b.drop (p / 8)) = b.drop (p / 8) := by
    have h6 := h.trans (List.take_append_drop (p / 8) b).symm
    exact List.append_cancel_left h6
  have h7 := layI_self (b.drop (p / 8)) _ (BI_drop hB _) (by rw [List.length_drop]; exact hlen) h5
  rcases Nat.mul_eq_zero.1 h7 with h8 | h8
  · exact h8
  · exact absurd h8 (Nat.pos_iff_ne_zero.1 (Nat.two_pow_pos (p % 8)))
theorem skip_no73 (l : List Int) (h : ∀ x ∈ l, x ≠ 73) : skipL l = [] := by
  have := skip_junk l [] h
  rw [List.append_nil] at this
  rw [this]
  rfl
/-- Turned, and no other byte 73 in it: what is answered is no frame. -/
theorem turned_all (x : List Int) (hx : BI x) (hl : x.length ≤ 300000) (p m : Nat) (hp : p < 8 * (frameL x).length) (hm : m < 4294967296) (hlen : m * 2 ^ (p % 8) < 2 ^ (8 * ((frameL x).length - p / 8))) (h0 : m ≠ 0)
    (h73 : ∀ y ∈ (turnL (frameL x) p m).drop 1, y ≠ 73) :
    allI 1000 (turnL (frameL x) p m) false = ([⟨[], false, 4⟩], [], true) ∨ allI 1000 (turnL (frameL x) p m) false = ([⟨[], false, 30⟩], [], false) := by
  have hfB := frameL_BI hx
  have hfl := frameL_length x
  have hTl := turnL_length (frameL x) p m
  have hTB := turnL_BI hfB p m
  have ht9 := turnL_take (frameL x) p m 9
  have hts := turn_same (frameL x) hfB p m hm
  have htn := turn_none (frameL x) hfB p m hp hlen
  have hf9 : (frameL x).take 9 = headL x.length := by
    have := frameL_eq x []
    rw [List.append_nil, List.append_nil] at this
    rw [this]
    have h9 := headL_length x.length
    rw [← h9, List.take_left]
  have ht9' := turn_same (headL x.length) (headL_BI _) p m hm
  rw [hf9] at ht9
  generalize turnL (frameL x) p m = T at *
  by_cases hb : beginsI T = true
  · right
    have hb' := hb
    unfold beginsI at hb'
    rw [Bool.and_eq_true, decide_eq_false (show ¬ T.length < 9 by omega), Bool.false_or, Bool.and_eq_true, decide_eq_true_eq, decide_eq_true_eq] at hb'
    have e9 : T.take 9 = sealL (T.take 5) := by
      have h1 := (List.take_append_drop 5 (T.take 9)).symm
      rw [List.take_take, show min 5 9 = 5 from rfl, hb'.2.1] at h1
      exact h1
    have s1 := seal_sum (T.take 5) (BI_take hTB 5)
    have s2 := seal_sum (head5 x.length) (head5_BI _)
    have hhead : T.take 9 = headL x.length := by
      rw [ht9]
      refine ht9' ?_
      rw [← ht9, e9, s1]
      exact s2.symm
    have hTe : T = headL x.length ++ T.drop 9 := by rw [← hhead, List.take_append_drop]
    have hsz : sizeN T = x.length := by rw [hTe]; exact size_headL _ _ hl
    have hne : ¬ crc4 (T.take (9 + x.length)) = (T.take (13 + x.length)).drop (9 + x.length) := by
      intro hc
      have e1 : T = sealL (T.take (9 + x.length)) := by
        have h1 := (List.take_append_drop (9 + x.length) T).symm
        rw [List.take_of_length_le (show T.length ≤ 13 + x.length by omega)] at hc
        rw [← hc] at h1
        exact h1
      have s3 := seal_sum (T.take (9 + x.length)) (BI_take hTB _)
      rw [← e1] at s3
      have s4 : onI 0 (frameL x) = 558161692 := seal_sum _ (BI_append (headL_BI _) hx)
      exact h0 (htn (hts (s3.trans s4.symm)))
    have hn : nextI T false = (([], false, 30), [], false) := by
      unfold nextI
      simp only [skip_begins hb, hsz]
      rw [if_neg (by omega), if_neg (by omega), if_neg (by omega), if_neg hne, List.drop_eq_nil_of_le (by omega)]
    rw [show (1000 : Nat) = 999 + 1 from rfl, allI_step hn (by simp), show (999 : Nat) = 998 + 1 from rfl, all_nil]
  · left
    have hsk : skipL T = [] := by
      cases T with
      | nil => rfl
      | cons y t => rw [skipL, if_neg hb]; exact skip_no73 t h73
    have hn : nextI T false = (([], false, 4), [], true) := by
      unfold nextI
      simp only [hsk]
      rw [if_pos ⟨by simp only [List.length_nil]; omega, trivial⟩]
    rw [show (1000 : Nat) = 999 + 1 from rfl, allI_step hn (by simp), show (999 : Nat) = 998 + 1 from rfl, all_nil]
def within (l : List Int) : Bool := l.any (fun x => decide (x = 73))
theorem within_loop (l : List Int) (hl : l.length ≤ 1000000) (d : Nat) : ∀ i : Nat, i + d = l.length → Ev (fun k => incunablelaw28_within.l0 k l (i : Int)) (within (l.drop i)) := by
  induction d with
  | zero =>
    intro i hi
    refine Ev.step (f := fun k => _) (fun k => by simp only [incunablelaw28_within.l0]; rfl) ?_
    rw [List.drop_eq_nil_of_le (by omega)]
    exact ev_neg (by omega) (Ev.now _)
  | succ d ih =>
    intro i hi
    have hil : i < l.length := by omega
    refine Ev.step (f := fun k => _) (fun k => by simp only [incunablelaw28_within.l0]; rfl) ?_
    refine ev_pos (by omega) (ev_pos (by omega) ?_)
    rw [rd_at l i hil, List.drop_eq_getElem_cons hil]
    by_cases h : l[i] = 73
    · refine ev_pos h ?_
      exact ev_eq (by simp [within, h]) (Ev.now _)
    · refine ev_neg h ?_
      rw [w64 (by omega) (by omega)]
      exact ev_eq (show within (l.drop (i + 1)) = within (l[i] :: l.drop (i + 1)) from by unfold within; rw [List.any_cons, decide_eq_false h, Bool.false_or]) (ih (i + 1) (by omega))
theorem within_ev (l : List Int) (hl : l.length ≤ 1000000) : Ev (fun k => incunablelaw28_within.f k l) (within l) := by
  unfold incunablelaw28_within.f
  exact within_loop l hl l.length 0 (by omega)
theorem within_no {l : List Int} (h : within l = false) : ∀ y ∈ l, y ≠ 73 := by
  intro y hy he
  unfold within at h
  rw [List.any_eq_false] at h
  exact h y hy (by simp [he])
theorem mod_succ_add (n i : Nat) : n % 2 ^ (i + 1) = n % 2 ^ i + 2 ^ i * (n / 2 ^ i % 2) := by rw [Nat.pow_succ, Nat.mod_mul]
theorem rd_right (l r : List Int) (j : Nat) : rd (l ++ r) ((l.length + j : Nat) : Int) = rd r (j : Int) := by
  unfold rd
  rw [Int.toNat_natCast, Int.toNat_natCast, List.getD_eq_getElem?_getD, List.getD_eq_getElem?_getD, List.getElem?_append_right (by omega), Nat.add_sub_cancel_left]
theorem set_right (l r : List Int) (j : Nat) (x : Int) : (l ++ r).set (l.length + j) x = l ++ r.set j x := by
  rw [List.set_append_right _ _ (by omega), Nat.add_sub_cancel_left]
theorem shl_u8 (r : Nat) (hr : r < 8) : shl .u8 1 (r : Int) = ((2 ^ r : Nat) : Int) := by
  have h : 2 ^ r ≤ 2 ^ 7 := Nat.pow_le_pow_right (by omega) (by omega)
  unfold shl
  rw [show min (r : Int).toNat IntKind.u8.bits = r by simp [IntKind.bits]; omega, show (1 : Int) * 2 ^ r = ((2 ^ r : Nat) : Int) by simp]
  generalize 2 ^ r = z at h ⊢
  rw [IntKind.wrap_u8]
  omega
theorem bit_of (n i : Nat) (hn : n < 4294967296) (hi : i < 32) : Go.bits .and .u32 (shr .u32 (n : Int) (i : Int)) 1 = ((n / 2 ^ i % 2 : Nat) : Int) := by
  unfold shr
  rw [show min (i : Int).toNat IntKind.u32.bits = i by simp [IntKind.bits]; omega, show (n : Int) / 2 ^ i = ((n / 2 ^ i : Nat) : Int) by simp]
  have h : n / 2 ^ i < 4294967296 := Nat.lt_of_le_of_lt (Nat.div_le_self _ _) hn
  rw [show (1 : Int) = ((1 : Nat) : Int) from rfl, u32_and_nat _ 1 h (by omega), Nat.and_one_is_mod]
theorem lay_lt (n i s L q : Nat) (h : i + s ≤ 8 * (L - q)) : n % 2 ^ i * 2 ^ s < 2 ^ (8 * (L - q)) := by
  have h1 : n % 2 ^ i < 2 ^ i := Nat.mod_lt _ (Nat.two_pow_pos i)
  have h2 : n % 2 ^ i * 2 ^ s < 2 ^ i * 2 ^ s := Nat.mul_lt_mul_of_pos_right h1 (Nat.two_pow_pos s)
  rw [← Nat.pow_add] at h2
  exact Nat.lt_of_lt_of_le h2 (Nat.pow_le_pow_right (by omega) h)
/-- one bit more is turned -/
theorem turn_set (b : List Int) (hB : BI b) (n p i : Nat) (hlt : p + i < 8 * b.length) (h1 : n / 2 ^ i % 2 = 1) :
    (turnL b p (n % 2 ^ i)).set ((p + i) / 8) (Go.bits .xor .u8 (rd (turnL b p (n % 2 ^ i)) (((p + i) / 8 : Nat) : Int)) ((2 ^ ((p + i) % 8) : Nat) : Int)) = turnL b p (n % 2 ^ (i + 1)) := by
  have hBd := BI_drop hB (p / 8)
  have htl : (b.take (p / 8)).length = p / 8 := by rw [List.length_take]; omega
  unfold turnL
  rw [lay_succ n i (p % 8), if_pos h1, layI_xor _ _ _ hBd]
  have hl2 := layI_BI (n % 2 ^ i * 2 ^ (p % 8)) _ hBd
  have hll := layI_length (n % 2 ^ i * 2 ^ (p % 8)) (b.drop (p / 8))
  rw [List.length_drop] at hll
  generalize layI (n % 2 ^ i * 2 ^ (p % 8)) (b.drop (p / 8)) = D at hl2 hll
  rw [layI_pow D (i + p % 8) hl2 (by omega)]
  have e1 : (p + i) / 8 = (b.take (p / 8)).length + (i + p % 8) / 8 := by rw [htl]; omega
  rw [e1, rd_right, set_right, show (p + i) % 8 = (i + p % 8) % 8 by omega]
theorem turn_keep (n i : Nat) (h1 : ¬ n / 2 ^ i % 2 = 1) : n % 2 ^ (i + 1) = n % 2 ^ i := by
  have := mod_succ_add n i
  rw [show n / 2 ^ i % 2 = 0 by omega] at this
  omega
theorem turn_some (n i : Nat) (h1 : n / 2 ^ i % 2 = 1) : n % 2 ^ (i + 1) ≠ 0 := by
  have := mod_succ_add n i
  rw [h1] at this
  have h2 := Nat.two_pow_pos i
  omega
end Go.Proofs.Ytkndghbognhocaa.Pure
namespace Go.Proofs.Ytkndghbognhocaa.X
open Go.RowKit Go.Proofs.YtkndghbognhocaaW.PrintWords Go.Proofs.YtkndghbognhocaaW.PrintLast Go.Proofs.YtkndghbognhocaaW.PrintMore Go.Proofs.Ytkndghbognhocaa.Pure
theorem within_n (L : List Int) (A : Option Addr) (n c : Nat) (w : World) (hn : L.length = n) (hm : n ≤ 1000000) (hC : CB w A n L) (hc : n ≤ c) :
    Calls Try.prog 25 #[.slice A n c] w fun e w' => e = .returned (.bool (within L)) ∧ Below w.heap.size w w' := by
  subst hn
  obtain ⟨k, hk⟩ := (within_ev L hm).rounds
  refine (incunablelaw28_within.calls k A c L _ w hC hc hk).mono ?_
  rintro e w' ⟨rfl, h⟩
  exact ⟨rfl, h.below⟩
end Go.Proofs.Ytkndghbognhocaa.X
