/- CrcMany: bytes that come in pieces, however they are cut, have the sum of all: for any sum, all bytes that a machine can hold, and any cuts. -/
import Derived.Test.YtimpejljlnnlaaaXx9
import Derived.Test.YtimpejljlnnlaaaXCrcMore
namespace Go.Proofs.Ytimpejljlnnlaaa.Pure
set_option linter.unusedVariables false
open Go.RowKit Go.Proofs.Ytimpejljlnnlaaa.X Go.Proofs.YtimpejljlnnlaaaW.PrintWords Go.Proofs.YtimpejljlnnlaaaW.PrintLast Go.Proofs.YtimpejljlnnlaaaW.PrintMore

theorem piece (a : Int) (x : List Int) (s t : Nat) (h : s ≤ t) (a0 : 0 ≤ a) (a1 : a < 4294967296) (hB : BI x) : onI (onI a (x.take s)) ((x.take t).drop s) = onI a (x.take t) := by
  rw [onI_append a _ _ a0 a1 (BI_take hB s)]
  congr 1
  have := List.take_append_drop s (x.take t)
  rwa [List.take_take, Nat.min_eq_left h] at this
theorem many_loop (a : Int) (x l2 : List Int) (a0 : 0 ≤ a) (a1 : a < 4294967296) (hB : BI x) (hn : x.length ≤ 3000) (h2 : l2.length ≤ 9223372036854775800) (hw : ∀ y ∈ l2, -9223372036854775808 ≤ y ∧ y < 9223372036854775808) (d : Nat) :
    ∀ (s i : Nat), s ≤ x.length → i + d = min l2.length 40 + 1 → (d = 0 → s = x.length) →
      Ev (fun k => incunablelaw02_CrcMany.l0 k a x l2 (onI a (x.take s)) (onI 0 (x.take s)) (s : Int) (i : Int)) true := by
  have on_piece : ∀ (b : Int) (s t : Nat), s ≤ t → 0 ≤ b → b < 4294967296 → Ev (fun k => crc_On.f k (onI b (x.take s)) ((x.take t).drop s)) (onI b (x.take t)) := fun b s t h b0 b1 => by
    obtain ⟨o0, o1⟩ := onI_range b (x.take s) b0 b1 (BI_take hB s)
    have := on_ev (onI b (x.take s)) ((x.take t).drop s) o0 o1 (BI_drop (BI_take hB t) s) (by rw [List.length_drop, List.length_take]; omega)
    rwa [piece b x s t h b0 b1 hB] at this
  induction d with
  | zero =>
    intro s i hs hi hd
    have hsx : s = x.length := hd rfl
    subst hsx
    have ht : x.take x.length = x := List.take_length
    have fin : Ev (fun k => incunablelaw02_CrcMany.j1 k a x l2 (onI a (x.take x.length)) (onI 0 (x.take x.length)) (x.length : Int) (i : Int) false) true := by
      refine Ev.step (f := fun k => _) (fun k => by simp only [incunablelaw02_CrcMany.j1]; rfl) ?_
      refine ev_neg (by decide) ?_
      rw [ht]
      refine Ev.bind (f := fun k t => _) (on_ev a x a0 a1 hB (by omega)) (ev_pos rfl ?_)
      refine Ev.bind (f := fun _ t145 => some (onI 0 x == t145)) (of_ev x hB (by omega)) ?_
      exact ev_eq (by simp) (Ev.now _)
    refine Ev.step (f := fun k => _) (fun k => by simp only [incunablelaw02_CrcMany.l0]; rfl) ?_
    by_cases h : (i : Int) ≤ (l2.length : Int)
    · refine ev_pos h ?_
      rw [show decide ((i : Int) ≤ 40) = false from decide_eq_false (by omega)]
      exact fin
    · exact ev_neg h fin
  | succ d ih =>
    intro s i hs hi hd
    have next : ∀ t : Nat, s ≤ t → t ≤ x.length → (d = 0 → t = x.length) → Ev (fun k => incunablelaw02_CrcMany.l0 k a x l2 (onI a (x.take t)) (onI 0 (x.take t)) (t : Int) (wrap64 ((i : Int) + 1))) true := fun t h1 h2' h3 => by
      rw [w64 (by omega) (by omega)]
      exact ih t (i + 1) h2' (by omega) h3
    have fin : Ev (fun k => incunablelaw02_CrcMany.j2 k a x l2 (onI a (x.take s)) (onI 0 (x.take s)) (s : Int) (i : Int) (x.length : Int) false) true := by
      refine Ev.step (f := fun k => _) (fun k => by simp only [incunablelaw02_CrcMany.j2]; rfl) ?_
      refine ev_neg (by decide) (ev_pos (by omega) (ev_pos (by omega) (ev_pos (by omega) ?_)))
      simp only [Int.toNat_natCast]
      refine Ev.bind (f := fun k t => _) (on_piece a s x.length hs a0 a1) ?_
      refine Ev.bind (f := fun k t => _) (on_piece 0 s x.length hs (by omega) (by omega)) ?_
      exact next x.length hs (by omega) (fun _ => rfl)
    refine Ev.step (f := fun k => _) (fun k => by simp only [incunablelaw02_CrcMany.l0]; rfl) ?_
    refine ev_pos (by omega) ?_
    rw [show decide ((i : Int) ≤ 40) = true from decide_eq_true (by omega)]
    refine Ev.step (f := fun k => _) (fun k => by simp only [incunablelaw02_CrcMany.j1]; rfl) ?_
    refine ev_pos (by trivial) ?_
    by_cases hlt : (i : Int) < (l2.length : Int)
    · refine ev_pos hlt ?_
      by_cases h40 : (i : Int) < 40
      · rw [show decide ((i : Int) < 40) = true from decide_eq_true h40]
        refine Ev.step (f := fun k => _) (fun k => by simp only [incunablelaw02_CrcMany.j2]; rfl) ?_
        refine ev_pos (by trivial) (ev_pos (by omega) (ev_pos hlt ?_))
        rw [rd_at l2 i (by omega), w64 (x := (x.length : Int) - (s : Int)) (by omega) (by omega), w64 (x := (x.length : Int) - (s : Int) + 1) (by omega) (by omega)]
        obtain ⟨w0, w1⟩ := hw _ (List.getElem_mem (show i < l2.length by omega))
        obtain ⟨t, ht, t0, t1⟩ := bring_some (l2[i]'(by omega)) ((x.length : Int) - (s : Int) + 1) w0 w1 (by omega) (by omega)
        obtain ⟨t, rfl⟩ := Int.eq_ofNat_of_zero_le t0
        refine ev_some (f := fun k t => _) ht ?_
        rw [show wrap64 ((s : Int) + (t : Int)) = ((s + t : Nat) : Int) by rw [w64 (by omega) (by omega)]; rfl]
        refine ev_pos (by omega) (ev_pos (by omega) (ev_pos (by omega) ?_))
        simp only [Int.toNat_natCast]
        refine Ev.bind (f := fun k t => _) (on_piece a s (s + t) (by omega) a0 a1) ?_
        refine Ev.bind (f := fun k t => _) (on_piece 0 s (s + t) (by omega) (by omega) (by omega)) ?_
        exact next (s + t) (by omega) (by omega) (fun h => by omega)
      · rw [show decide ((i : Int) < 40) = false from decide_eq_false h40]
        exact fin
    · exact ev_neg hlt fin
theorem CrcMany : incunablelaw02_CrcMany.Pure := by
  intro a l l2 ha hm hl hw hm2 hl2 hw2
  obtain ⟨a0, a1⟩ := wf_u32 ha
  have hB0 := BI_wf hw
  refine Ev.rounds ?_
  unfold incunablelaw02_CrcMany.f
  obtain ⟨m1, m2, m3⟩ := mn_spec (l.length : Int) 3000
  generalize mn (l.length : Int) 3000 = m at m1 m2 m3
  have m0 : 0 ≤ m := by omega
  have hB := BI_take hB0 m.toNat
  have hn : (l.take m.toNat).length ≤ 3000 := by rw [List.length_take]; omega
  generalize l.take m.toNat = t at hB hn
  refine Ev.bind (f := fun k t => _) works_ev (ev_pos rfl (ev_pos m0 (ev_pos m1 ?_)))
  have e0 : ∀ b : Int, 0 ≤ b → b < 4294967296 → onI b (t.take 0) = b := fun b b0 b1 => by
    unfold onI Crc.on
    simp only [List.take_zero, nat, List.map_nil, Crc.run, Crc.not_not]
    omega
  have := many_loop a t l2 a0 a1 hB hn (by omega) (fun y hy => wf_i64 (hw2 y hy)) (min l2.length 40 + 1) 0 0 (by omega) (by omega) (fun h => by omega)
  rw [e0 a a0 a1, e0 0 (by omega) (by omega)] at this
  exact this
end Go.Proofs.Ytimpejljlnnlaaa.Pure
