/- Numbers and texts read, by the document. -/
import Derived.Test.YtpmikaoheaefiaaXx7
import Derived.Test.YtpmikaoheaefiaaXx8
import Derived.Test.YtpmikaoheaefiaaXPkB
namespace Go.Proofs.Ytpmikaoheaefiaa.Pure
set_option linter.unusedVariables false
set_option linter.unusedSimpArgs false
open Go.RowKit Go.Proofs.Ytpmikaoheaefiaa.X Go.Proofs.YtpmikaoheaefiaaW.PrintWords Go.Proofs.YtpmikaoheaefiaaW.PrintLast Go.Proofs.YtpmikaoheaefiaaW.PrintMore
theorem rtake_val (acc p x : Nat) (b : Int) (h0 : 0 ≤ b) (h1 : b < 256) (hx : x = b.toNat % 128) (hb : acc + p * x < 2 ^ 56) (hp : p ≤ 2 ^ 49) : wrap64 ((acc : Int) + wrap64 (wrap64 (Int.tmod b 128) * (p : Int))) = ((acc + p * x : Nat) : Int) := by
  have e : Int.tmod b 128 = (x : Int) := by rw [Int.tmod_eq_emod_of_nonneg h0]; omega
  rw [e, w64 (x := (x : Int)) (by omega) (by omega), show (x : Int) * (p : Int) = ((p * x : Nat) : Int) by rw [Nat.mul_comm]; simp]
  rw [w64 (x := ((p * x : Nat) : Int)) (by omega) (by omega), w64 (by omega) (by omega)]
  omega
def outR (l : List Int) (r : Int × Int × Int) : Int × List Int × Int := if r.2.2 = 0 then (r.1, l.drop r.2.1.toNat, 0) else (0, [], r.2.2)
theorem rtake_loop (l : List Int) (hB : BI l) (hn : l.length < 225179981368000) (d : Nat) : ∀ (i acc : Nat), i + d = 8 → acc < 2 ^ (7 * i) → i ≤ l.length →
    Ev (fun k => incunableref01_TakeNum.l0 k l (acc : Int) ((2 ^ (7 * i) : Nat) : Int) (i : Int)) (outR l (out acc (2 ^ (7 * i)) i (raw d (l.drop i)))) := by
  induction d with
  | zero =>
    intro i acc hi ha hl
    refine Ev.step (f := fun k => _) (fun k => by simp only [incunableref01_TakeNum.l0]; rfl) ?_
    exact ev_neg (by omega) (Ev.now _)
  | succ d ih =>
    intro i acc hi ha hl
    refine Ev.step (f := fun k => _) (fun k => by simp only [incunableref01_TakeNum.l0]; rfl) ?_
    refine ev_pos (by omega) ?_
    by_cases hlt : i = l.length
    · refine ev_pos (by omega) ?_
      rw [List.drop_eq_nil_of_le (by omega)]
      exact Ev.now _
    · have hlt : i < l.length := by omega
      have hb := hB _ (List.getElem_mem hlt)
      have h56 := pow_le56 (i + 1) (by omega)
      have h49 : 2 ^ (7 * i) ≤ 2 ^ 49 := Nat.pow_le_pow_right (by omega) (by omega)
      obtain ⟨_, o2⟩ := lay_or acc (l[i].toNat % 128) i (by omega) ha (by omega)
      have hv := rtake_val acc (2 ^ (7 * i)) (l[i].toNat % 128) l[i] hb.1 hb.2 rfl (by omega) h49
      refine ev_neg (by omega) (ev_pos (by omega) (ev_pos (by omega) ?_))
      rw [rd_at l i hlt, hv, List.drop_eq_getElem_cons hlt, w64 (x := (i : Int) + 1) (by omega) (by omega)]
      have done : ∀ z : Bool, z = decide (l[i] = 0) → ¬ (9007199254740991 < acc + 2 ^ (7 * i) * (l[i].toNat % 128)) → (z = true → ¬ 1 < i + 1) →
          outR l (fin (acc + 2 ^ (7 * i) * (l[i].toNat % 128)) (i + 1) z) = (((acc + 2 ^ (7 * i) * (l[i].toNat % 128) : Nat) : Int), l.drop ((i : Int) + 1).toNat, 0) := fun z _ h3 hz => by
        unfold fin
        rw [if_neg (fun q => q.elim (fun q => hz q.1 q.2) h3)]
        unfold outR
        rw [if_pos rfl]; rfl
      have cp : incunableref00_CopyBytes.f (l.drop ((i : Int) + 1).toNat) = some (l.drop ((i : Int) + 1).toNat) := copy_some _ (by rw [List.length_drop]; omega)
      by_cases h1 : l[i] < 128
      · refine ev_neg (by omega) ?_
        have e128 : l[i].toNat % 128 = l[i].toNat := by omega
        simp only [raw, if_pos h1, out, if_pos]
        by_cases hz : l[i] = 0
        · refine ev_pos hz ?_
          by_cases h2 : 1 < i + 1
          · rw [fin_zero _ _ _ (decide_eq_true hz), if_pos h2]
            exact ev_pos (by omega) (Ev.now _)
          · refine ev_neg (by omega) ?_
            by_cases h3 : 9007199254740991 < acc + 2 ^ (7 * i) * (l[i].toNat % 128)
            · refine ev_pos (by omega) (ev_eq ?_ (Ev.now _))
              rw [fin_zero _ _ _ (decide_eq_true hz), if_neg h2, if_pos (by rw [e128] at h3; exact h3)]
              rfl
            · refine ev_neg (by omega) (ev_pos (by omega) (ev_pos (by omega) ?_))
              refine ev_some (f := fun k t => _) cp (ev_eq ?_ (Ev.now _))
              have := done _ rfl h3 (fun _ => h2)
              rw [← this, e128]
        · refine ev_neg hz ?_
          by_cases h3 : 9007199254740991 < acc + 2 ^ (7 * i) * (l[i].toNat % 128)
          · refine ev_pos (by omega) (ev_eq ?_ (Ev.now _))
            rw [fin_more _ _ _ (decide_eq_false hz), if_pos (by rw [e128] at h3; exact h3)]
            rfl
          · refine ev_neg (by omega) (ev_pos (by omega) (ev_pos (by omega) ?_))
            refine ev_some (f := fun k t => _) cp (ev_eq ?_ (Ev.now _))
            have := done _ rfl h3 (fun q => absurd (of_decide_eq_true q) hz)
            rw [← this, e128]
      · refine ev_pos (by omega) ?_
        rw [show wrap64 (((2 ^ (7 * i) : Nat) : Int) * 128) = ((2 ^ (7 * (i + 1)) : Nat) : Int) by
          rw [show 7 * (i + 1) = 7 * i + 7 by omega, Nat.pow_add, w64 (by omega) (by omega)]; omega]
        have := ih (i + 1) (acc + 2 ^ (7 * i) * (l[i].toNat % 128)) (by omega) o2 (by omega)
        refine ev_eq ?_ this
        simp only [raw, if_neg h1]
        by_cases hr : (raw d (l.drop (i + 1))).1 = 0
        · simp only [out, if_pos hr, if_pos]
          have e1 : acc + 2 ^ (7 * i) * (l[i].toNat % 128) + 2 ^ (7 * (i + 1)) * (raw d (l.drop (i + 1))).2.1 = acc + 2 ^ (7 * i) * (l[i].toNat - 128 + 128 * (raw d (l.drop (i + 1))).2.1) := by
            rw [show l[i].toNat % 128 = l[i].toNat - 128 by omega, show 7 * (i + 1) = 7 * i + 7 by omega, Nat.pow_add, Nat.mul_add, Nat.mul_assoc, Nat.add_assoc]
          rw [e1, show i + 1 + (raw d (l.drop (i + 1))).2.2.1 = i + ((raw d (l.drop (i + 1))).2.2.1 + 1) by omega]
        · simp only [out, if_neg hr]
theorem rtaken_ev (l : List Int) (hB : BI l) (hn : l.length < 225179981368000) : Ev (fun k => incunableref01_TakeNum.f k l) (takeI l) := by
  unfold incunableref01_TakeNum.f takeI tk
  have := rtake_loop l hB hn 8 0 0 (by omega) (by omega) (by omega)
  simpa [outR] using this
theorem rtakeText_ev (l : List Int) (most : Int) (hB : BI l) (hn : l.length < 225179981368000) : Ev (fun k => incunableref01_TakeText.f k l most) (takeTextI l most) := by
  unfold incunableref01_TakeText.f takeTextI
  by_cases h0 : most < 0
  · rw [if_pos h0]; exact ev_pos h0 (Ev.now _)
  · rw [if_neg h0]
    refine ev_neg h0 ?_
    refine Ev.bind (f := fun k t => _) (rtaken_ev l hB hn) ?_
    obtain ⟨r0, r1, r2⟩ := takeI_range l
    generalize takeI l = q at r0 r1 r2
    obtain ⟨n, r, e⟩ := q
    simp only at r0 r1 r2
    by_cases he : e = 0
    · refine ev_pos he ?_
      rw [if_pos he]
      dsimp only
      by_cases h5 : n > most
      · simp only [if_pos h5]; exact Ev.now _
      · simp only [if_neg h5]
        by_cases h6 : n > (r.length : Int)
        · simp only [if_pos h6]; exact Ev.now _
        · simp only [if_neg h6]
          refine ev_pos r0 (ev_pos (by omega) ?_)
          refine ev_some (f := fun k t => _) (copy_some _ (by simp; omega)) ?_
          exact ev_some (f := fun k t => _) (copy_some _ (by simp; omega)) (Ev.now _)
    · refine ev_neg he ?_
      rw [if_neg he]
      exact Ev.now _

/-! ### helpers -/
end Go.Proofs.Ytpmikaoheaefiaa.Pure
