/- CrcBurst: if some bits are turned, all within 32 that are consecutive, the sum is another one: for all bytes that a machine can hold, any bits, any place. -/
import Derived.Test.YtimpejljlnnlaaaXx14
import Derived.Test.YtimpejljlnnlaaaXCrcMore
import Derived.Test.YtimpejljlnnlaaaXCrcTurn
namespace Go.Proofs.Ytimpejljlnnlaaa.Pure
set_option linter.unusedVariables false
set_option linter.unusedSimpArgs false
open Go.RowKit Go.Proofs.Ytimpejljlnnlaaa.X Go.Proofs.YtimpejljlnnlaaaW.PrintWords Go.Proofs.YtimpejljlnnlaaaW.PrintLast Go.Proofs.YtimpejljlnnlaaaW.PrintMore

def layI : Nat → List Int → List Int
  | _, [] => []
  | n, c :: l => Go.bits .xor .u8 c (((n % 256 : Nat)) : Int) :: layI (n / 256) l
theorem xor_byte (c : Int) (h0 : 0 ≤ c) (h1 : c < 256) (n : Nat) (hn : n < 256) : Go.bits .xor .u8 c (n : Int) = ((c.toNat ^^^ n : Nat) : Int) := by
  obtain ⟨d, rfl⟩ := Int.eq_ofNat_of_zero_le h0
  exact u8_xor_nat d n (by omega) hn
theorem nat_layI (n : Nat) (l : List Int) (hl : BI l) : nat (layI n l) = layN n (nat l) := by
  induction l generalizing n with
  | nil => rfl
  | cons c l ih =>
    have hc := hl c (by simp)
    have := ih (n / 256) (fun x hx => hl x (by simp [hx]))
    simp only [layI, nat, List.map_cons, layN] at this ⊢
    rw [this, xor_byte c hc.1 hc.2 _ (by omega), Int.toNat_natCast]
theorem layI_BI (n : Nat) (l : List Int) (hl : BI l) : BI (layI n l) := by
  induction l generalizing n with
  | nil => exact hl
  | cons c l ih =>
    have hc := hl c (by simp)
    refine BI_cons ?_ ?_ (ih _ (fun x hx => hl x (by simp [hx])))
    · rw [xor_byte c hc.1 hc.2 _ (by omega)]; omega
    · rw [xor_byte c hc.1 hc.2 _ (by omega)]
      have : c.toNat ^^^ n % 256 < 256 := Nat.xor_lt_two_pow (n := 8) (by omega) (by omega)
      omega
theorem layI_length (n : Nat) (l : List Int) : (layI n l).length = l.length := by
  induction l generalizing n with
  | nil => rfl
  | cons c l ih => simp [layI, ih]
theorem nat_inj (a b : List Int) (ha : BI a) (hb : BI b) (h : nat a = nat b) : a = b := by
  induction a generalizing b with
  | nil => cases b with
    | nil => rfl
    | cons y b => simp [nat] at h
  | cons x a ih => cases b with
    | nil => simp [nat] at h
    | cons y b =>
      simp only [nat, List.map_cons, List.cons.injEq] at h
      have hx := ha x (by simp)
      have hy := hb y (by simp)
      rw [ih b (fun z hz => ha z (by simp [hz])) (fun z hz => hb z (by simp [hz])) h.2]
      congr 1
      omega
theorem layI_zero (l : List Int) (hl : BI l) : layI 0 l = l := nat_inj _ _ (layI_BI 0 l hl) hl (by rw [nat_layI 0 l hl, layN_none _ _ (by simp)])
theorem burst_end (l c : List Int) (hl : BI l) (hc : BI c) (hn : l.length ≤ 9223372036854775800) (hcn : c.length = l.length) (h : onI 0 c = onI 0 l ↔ c = l) :
    Ev (fun k => (crc_Of.f k c).bind fun t210 => ((crc_Of.f k l).bind fun t211 => ((incunableref00_EqBytes.f k c l).bind fun t212 => (some ((t210 == t211) == t212))))) true := by
  refine Ev.bind (f := fun k t => _) (of_ev c hc (by omega)) ?_
  refine Ev.bind (f := fun k t => _) (of_ev l hl hn) ?_
  refine Ev.bind (f := fun _ t212 => some ((onI 0 c == onI 0 l) == t212)) (eq_ev c l (by omega)) ?_
  refine ev_eq ?_ (Ev.now _)
  rw [beq_iff_eq, Bool.eq_iff_iff, beq_iff_eq, decide_eq_true_iff]
  exact h
theorem burst_loop (l : List Int) (hl : BI l) (hn : l.length ≤ 9223372036854775800) (d : Nat) : ∀ (n i : Nat) (c : List Int), i + d = l.length → c.length = l.length → BI c →
    (∀ z, z = c.take i ++ layI n (c.drop i) → (onI 0 z = onI 0 l ↔ z = l)) → Ev (fun k => incunablelaw02_CrcBurst.l0 k l (n : Int) c (i : Int)) true := by
  induction d with
  | zero =>
    intro n i c hi hc hB h
    refine Ev.step (f := fun k => _) (fun k => by simp only [incunablelaw02_CrcBurst.l0]; rfl) ?_
    refine ev_neg (by omega) (burst_end l c hl hB hn hc (h c ?_))
    rw [List.drop_eq_nil_of_le (by omega), List.take_of_length_le (by omega)]
    simp [layI]
  | succ d ih =>
    intro n i c hi hc hB h
    refine Ev.step (f := fun k => _) (fun k => by simp only [incunablelaw02_CrcBurst.l0]; rfl) ?_
    refine ev_pos (by omega) ?_
    by_cases h0 : n = 0
    · subst h0
      refine ev_neg (by omega) (burst_end l c hl hB hn hc (h c ?_))
      rw [layI_zero _ (BI_drop hB i), List.take_append_drop]
    · have hlt : i < c.length := by omega
      have hb := hB _ (List.getElem_mem hlt)
      refine ev_pos (by omega) (ev_pos (by omega) (ev_pos (by omega) ?_))
      rw [rd_at c i hlt, Int.toNat_natCast, w64 (by omega) (by omega), show (n : Int) / 256 = ((n / 256 : Nat) : Int) by omega, show (n : Int) % 256 = ((n % 256 : Nat) : Int) by omega]
      have hx : Go.bits .xor .u8 c[i] ((n % 256 : Nat) : Int) = ((c[i].toNat ^^^ n % 256 : Nat) : Int) := xor_byte _ hb.1 hb.2 _ (by omega)
      have hxl : c[i].toNat ^^^ n % 256 < 256 := Nat.xor_lt_two_pow (n := 8) (by omega) (by omega)
      refine ih (n / 256) (i + 1) _ (by omega) (by rw [List.length_set]; exact hc) ?_ ?_
      · intro x hx'
        rcases List.mem_or_eq_of_mem_set hx' with hx' | rfl
        · exact hB x hx'
        · rw [hx]; omega
      · intro z hz
        apply h z
        rw [hz, List.drop_eq_getElem_cons hlt, layI, List.take_succ_eq_append_getElem (by rw [List.length_set]; exact hlt), List.getElem_set_self, List.drop_set_of_lt (by omega), List.take_set_of_le (by omega), List.append_assoc]
        rfl
theorem CrcBurst : incunablelaw02_CrcBurst.Pure := by
  intro l a f g hm hl hw ha hf hg
  have hB := BI_wf hw
  obtain ⟨a0, a1⟩ := wf_u32 ha
  obtain ⟨f0, f1⟩ := wf_i64 hf
  obtain ⟨g0, g1⟩ := wf_i64 hg
  refine Ev.rounds ?_
  unfold incunablelaw02_CrcBurst.f
  refine Ev.bind (f := fun k t => _) works_ev (ev_pos rfl ?_)
  refine Ev.step (f := fun k => _) (fun k => by simp only [incunablelaw02_CrcBurst.j0]; rfl) ?_
  by_cases h0 : (l.length : Int) = 0
  · refine ev_pos (by simpa using h0) ?_
    exact ev_eq (by simpa using h0) (Ev.now _)
  · refine ev_neg (by simpa using h0) ?_
    obtain ⟨s, hs, s0, s1⟩ := bring_some g 8 g0 g1 (by omega) (by omega)
    obtain ⟨s, rfl⟩ := Int.eq_ofNat_of_zero_le s0
    obtain ⟨i, hi, i0, i1⟩ := bring_some f (l.length : Int) f0 f1 (by omega) (by omega)
    obtain ⟨i, rfl⟩ := Int.eq_ofNat_of_zero_le i0
    obtain ⟨n, rfl⟩ := Int.eq_ofNat_of_zero_le a0
    refine ev_some (f := fun k t => _) hs (ev_pos s0 ?_)
    refine ev_some (f := fun k t => _) (behind_some [] l (by simp; omega)) ?_
    refine ev_some (f := fun k t => _) hi ?_
    have hp : n * 2 ^ s < 18446744073709551616 := by
      have : 2 ^ s ≤ 2 ^ 7 := Nat.pow_le_pow_right (by omega) (by omega)
      calc n * 2 ^ s ≤ n * 2 ^ 7 := Nat.mul_le_mul_left _ this
        _ < _ := by omega
    have hsh : shl .u64 (IntKind.u64.wrap (n : Int)) (s : Int) = ((n * 2 ^ s : Nat) : Int) := by
      unfold shl
      have w : ∀ z : Nat, z < 18446744073709551616 → IntKind.u64.wrap (z : Int) = (z : Int) := fun z hz => by rw [IntKind.wrap_u64]; omega
      rw [w n (by omega), show min (s : Int).toNat IntKind.u64.bits = s by simp [IntKind.bits]; omega]
      rw [show (n : Int) * 2 ^ s = ((n * 2 ^ s : Nat) : Int) by simp]
      exact w _ hp
    rw [hsh]
    simp only [List.nil_append]
    refine burst_loop l hB (by omega) (l.length - i) (n * 2 ^ s) i l (by omega) rfl hB ?_
    rintro z rfl
    have hBd := BI_drop hB i
    have hBt := BI_take hB i
    have key := burst_iff 0 (nat (l.take i)) (nat (l.drop i)) (nat_B hBt) (nat_B hBd) (by omega) n s (by omega) (by omega) (by simp [nat]; omega)
    rw [← nat_layI _ _ hBd, ← nat_append, ← nat_append, List.take_append_drop] at key
    have hz := BI_append hBt (layI_BI (n * 2 ^ s) _ hBd)
    unfold onI
    constructor
    · intro h
      exact nat_inj _ _ hz hB (key.1 (Int.ofNat_inj.1 h))
    · intro h; rw [h]
end Go.Proofs.Ytimpejljlnnlaaa.Pure
