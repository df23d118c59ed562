/- PackReads: Size and Unpack answer as the document says, of all bytes that a machine can hold; what is answered is memory of its own. -/
import Derived.Test.YtpmikaoheaefiaaXx15
import Derived.Test.YtpmikaoheaefiaaXx3
import Derived.Test.YtpmikaoheaefiaaXx9
import Derived.Test.YtpmikaoheaefiaaXPkB
import Derived.Test.YtpmikaoheaefiaaXPkT
import Derived.Test.YtpmikaoheaefiaaXrPackReads
namespace Go.Proofs.Ytpmikaoheaefiaa.Pure
set_option linter.unusedVariables false
set_option linter.unusedSimpArgs false
open Go.RowKit Go.Proofs.Ytpmikaoheaefiaa.X Go.Proofs.YtpmikaoheaefiaaW.PrintWords Go.Proofs.YtpmikaoheaefiaaW.PrintLast Go.Proofs.YtpmikaoheaefiaaW.PrintMore

theorem rsize_rest (b : List Int) (hB : BI b) (hn : b.length ≤ 9223372036854775800) :
    Ev (fun k => incunableref03_Size.j0 k b false) (if b.length < 6 then (0, 3) else if le4 b > 262144 then (0, 5) else if le4 b < 11 then (0, 4) else (le4 b, 0)) := by
  refine Ev.step (f := fun k => _) (fun k => by simp only [incunableref03_Size.j0]; rfl) ?_
  refine ev_neg (by decide) ?_
  by_cases h6 : b.length < 6
  · rw [if_pos h6]; exact ev_pos (by omega) (Ev.now _)
  rw [if_neg h6]
  refine ev_neg (by omega) (ev_pos (by omega) (ev_pos (by omega) (ev_pos (by omega) (ev_pos (by omega) ?_))))
  have h2 := rd_BI b hB 2 (by omega)
  have h3 := rd_BI b hB 3 (by omega)
  have h4 := rd_BI b hB 4 (by omega)
  have h5 := rd_BI b hB 5 (by omega)
  rw [show ((2 : Nat) : Int) = 2 from rfl] at h2
  rw [show ((3 : Nat) : Int) = 3 from rfl] at h3
  rw [show ((4 : Nat) : Int) = 4 from rfl] at h4
  rw [show ((5 : Nat) : Int) = 5 from rfl] at h5
  have e : wrap64 ((wrap64 ((wrap64 ((wrap64 (rd b 2)) + (wrap64 ((wrap64 (rd b 3)) * 256)))) + (wrap64 ((wrap64 (rd b 4)) * 65536)))) + (wrap64 ((wrap64 (rd b 5)) * 16777216))) = le4 b := by
    unfold le4
    rw [w64 (x := rd b 2) (by omega) (by omega), w64 (x := rd b 3) (by omega) (by omega), w64 (x := rd b 4) (by omega) (by omega), w64 (x := rd b 5) (by omega) (by omega), w64 (x := rd b 3 * 256) (by omega) (by omega), w64 (x := rd b 4 * 65536) (by omega) (by omega), w64 (x := rd b 5 * 16777216) (by omega) (by omega),
      w64 (x := rd b 2 + rd b 3 * 256) (by omega) (by omega), w64 (x := rd b 2 + rd b 3 * 256 + rd b 4 * 65536) (by omega) (by omega), w64 (by omega) (by omega)]
    omega
  rw [e]
  by_cases h1 : le4 b > 262144
  · simp only [if_pos h1]; exact Ev.now _
  simp only [if_neg h1]
  by_cases h2 : le4 b < 11
  · simp only [if_pos h2]; exact Ev.now _
  simp only [if_neg h2]
  exact Ev.now _
theorem rsize_bad (b : List Int) : Ev (fun k => incunableref03_Size.j0 k b true) (0, 4) := by
  refine Ev.step (f := fun k => _) (fun k => by simp only [incunableref03_Size.j0]; rfl) ?_
  exact Ev.now _
theorem rsize_ev (b : List Int) (hB : BI b) (hn : b.length ≤ 9223372036854775800) : Ev (fun k => incunableref03_Size.f k b) (sizeI b) := by
  unfold incunableref03_Size.f sizeI
  by_cases h0 : b.length = 0
  · rw [if_neg (by omega)]
    exact ev_neg (by omega) (ev_neg (by omega) (rsize_rest b hB hn))
  refine ev_pos (by omega) (ev_pos (by omega) ?_)
  by_cases c0 : rd b 0 = 73
  · refine ev_pos c0 ?_
    by_cases h1 : b.length = 1
    · rw [if_neg (by omega)]
      exact ev_neg (by omega) (rsize_rest b hB hn)
    refine ev_pos (by omega) (ev_pos (by omega) ?_)
    by_cases c1 : rd b 1 = 80
    · rw [if_neg (by omega), show (rd b 1 != 80) = false by rw [c1]; rfl]
      exact rsize_rest b hB hn
    · rw [if_pos (by omega), show (rd b 1 != 80) = true from bne_iff_ne.2 c1]
      exact rsize_bad b
  · rw [if_pos (by omega)]
    exact ev_neg c0 (rsize_bad b)
theorem runpack_loop (x0 : List Int) (h6 : 6 < x0.length) (d : Nat) : ∀ (left : List Int) (last : Int) (acc : List S33), left.length < d → BI left → acc.length + left.length ≤ 300000 →
    Ev (fun k => incunableref03_Unpack.l0 k x0 acc last left) (match parse d left last with | none => (0, [], 4) | some l => (wrap64 (rd x0 6), acc ++ l, 0)) := by
  induction d with
  | zero => intro left last acc h; omega
  | succ d ih =>
    intro left last acc hd hB hs
    refine Ev.step (f := fun k => _) (fun k => by simp only [incunableref03_Unpack.l0]; rfl) ?_
    cases left with
    | nil =>
      refine ev_neg (by simp) (ev_pos (by omega) ?_)
      show Ev _ (wrap64 (rd x0 6), acc ++ [], 0)
      rw [List.append_nil]
      exact Ev.now _
    | cons tag r =>
      have hr : BI r := fun x hx => hB x (List.mem_cons_of_mem _ hx)
      obtain ⟨t0, t1⟩ := hB tag List.mem_cons_self
      simp only [List.length_cons] at hd hs
      refine ev_pos (by simp only [List.length_cons]; omega) (ev_pos (by simp only [List.length_cons]; omega) (ev_pos (by simp only [List.length_cons]; omega) ?_))
      rw [show (tag :: r).drop 1 = r from rfl, show rd (tag :: r) 0 = tag from rfl, w64 (by omega) (by omega)]
      refine Ev.bind (f := fun k t => _) (rtakeText_ev r 262144 hr (by omega)) ?_
      unfold parse
      by_cases c2 : tag ≤ last
      · refine ev_pos c2 ?_
        by_cases c1 : (takeTextI r 262144).2.2 = 0
        · rw [if_pos c1, if_pos c2]; exact Ev.now _
        · rw [if_neg c1]; exact Ev.now _
      refine ev_neg c2 ?_
      by_cases c1 : (takeTextI r 262144).2.2 = 0
      · rw [if_pos c1, if_neg c2]
        refine ev_pos c1 (ev_pos (by omega) ?_)
        have hsh := takeTextI_short r c1
        refine ev_eq ?_ (ih (takeTextI r 262144).2.1 tag _ (by omega) (takeTextI_BI r hr c1).2 (by simp only [List.length_append, List.length_cons, List.length_nil]; omega))
        cases parse d (takeTextI r 262144).2.1 tag with
        | none => rfl
        | some l => simp
      · rw [if_neg c1]
        exact ev_neg c1 (Ev.now _)
theorem runpack_ev (b : List Int) (hB : BI b) (hn : b.length ≤ 9223372036854775800) : Ev (fun k => incunableref03_Unpack.f k b) (unpackI b) := by
  unfold incunableref03_Unpack.f unpackI
  refine Ev.bind (f := fun k t => _) (rsize_ev b hB hn) ?_
  by_cases h0 : (sizeI b).2 = 0
  · rw [if_pos h0]
    refine ev_pos h0 ?_
    obtain ⟨e1, e2, e3, e4, e5, e6⟩ := sizeI_ok b h0
    by_cases h1 : (b.length : Int) < (sizeI b).1
    · rw [if_pos h1]; exact ev_pos h1 (Ev.now _)
    rw [if_neg h1]
    refine ev_neg h1 ?_
    by_cases h2 : (b.length : Int) > (sizeI b).1
    · rw [if_pos h2]; exact ev_pos h2 (Ev.now _)
    rw [if_neg h2]
    refine ev_neg h2 ?_
    have e7 : wrap64 ((sizeI b).1 - 4) = ((b.length - 4 : Nat) : Int) := by rw [w64 (by omega) (by omega)]; omega
    rw [e7]
    refine ev_pos (by omega) (ev_pos (by omega) ?_)
    rw [Int.toNat_natCast]
    have hb1 := BI_take hB (b.length - 4)
    have hl1 : (b.take (b.length - 4)).length = b.length - 4 := by rw [List.length_take]; omega
    have hr := onI0_range _ hb1
    refine Ev.bind (f := fun k t => _) (rof_ev _ hb1 (by omega)) ?_
    rw [w64 (x := onI 0 (b.take (b.length - 4))) (by omega) (by omega)]
    refine ev_some (f := fun k t => _) (show incunableref03_four.f _ = some (fourI _) from rfl) ?_
    refine Ev.bind (f := fun k t => _) (eq_ev _ _ (by rw [List.length_drop]; omega)) ?_
    by_cases h3 : b.drop (b.length - 4) = fourI (onI 0 (b.take (b.length - 4)))
    · rw [if_pos h3]
      refine ev_pos (decide_eq_true h3) (ev_pos (by omega) ?_)
      refine ev_some (f := fun k t => _) (copy_some _ (by rw [List.length_drop, hl1]; omega)) ?_
      have := runpack_loop b (by omega) b.length ((b.take (b.length - 4)).drop 7) 0 [] (by rw [List.length_drop, hl1]; omega) (BI_drop hb1 7) (by rw [List.length_drop, hl1]; simp; omega)
      have h66 := rd_BI b hB 6 (by omega)
      rw [show ((6 : Nat) : Int) = 6 from rfl] at h66
      rw [w64 (x := rd b 6) (by omega) (by omega)] at this
      refine ev_eq ?_ this
      cases parse b.length ((b.take (b.length - 4)).drop 7) 0 with
      | none => rfl
      | some l => rfl
    · rw [if_neg h3]
      exact ev_neg (by rw [decide_eq_false h3]; decide) (Ev.now _)
  · rw [if_neg h0]
    exact ev_neg h0 (Ev.now _)
theorem unpackI_short (b : List Int) : ((unpackI b).2.1).length ≤ 262144 ∧ ∀ s ∈ (unpackI b).2.1, s.f1.length ≤ 262144 ∨ True := by
  refine ⟨?_, fun _ _ => .inr trivial⟩
  by_cases h : (unpackI b).2.2 = 0
  · obtain ⟨hw, _, l, hp, hu⟩ := unpackI_cases b h
    rw [hu]
    obtain ⟨_, w2, _⟩ := whole_parts b hw
    have key : ∀ (d : Nat) (x : List Int) (last : Int) (l : List S33), parse d x last = some l → l.length ≤ x.length := by
      intro d
      induction d with
      | zero => intro x last l h; cases h
      | succ d ih =>
        intro x last l h
        cases x with
        | nil => have h' : some ([] : List S33) = some l := h; cases h'; simp
        | cons tag r =>
          unfold parse at h
          by_cases c1 : (takeTextI r 262144).2.2 = 0
          · rw [if_pos c1] at h
            by_cases c2 : tag ≤ last
            · rw [if_pos c2] at h; cases h
            · rw [if_neg c2] at h
              obtain ⟨l', hl', rfl⟩ := Option.map_eq_some_iff.1 h
              have := ih _ _ _ hl'
              have := takeTextI_short r c1
              simp only [List.length_cons]; omega
          · rw [if_neg c1] at h; cases h
    have := key _ _ _ _ hp
    rw [List.length_drop, List.length_take] at this
    show l.length ≤ 262144
    omega
  · rw [(unpackI_bad b h).2]; simp
theorem unpackI_small (b : List Int) (hB : BI b) : ∀ s ∈ (unpackI b).2.1, s.f1.length ≤ 262144 := by
  by_cases h : (unpackI b).2.2 = 0
  · obtain ⟨h1, _, _⟩ := pack_unpackI b hB (unpackI b).1 (unpackI b).2.1 (by rw [← h])
    exact (packI_ok _ _ _ h1).2.2.1
  · rw [(unpackI_bad b h).2]; intro s hs; cases hs
theorem reads_loop (b c : List Int) (l : List S33) (hbc : c = b) (hn : b.length ≤ 9223372036854775800) (hl : l.length ≤ 262144) (d : Nat) : ∀ i : Nat, i + d = l.length → Ev (fun k => incunablelaw03_PackReads.l0 k b c l (i : Int)) true := by
  induction d with
  | zero =>
    intro i hi
    refine Ev.step (f := fun k => _) (fun k => by simp only [incunablelaw03_PackReads.l0]; rfl) ?_
    refine ev_neg (by omega) ?_
    subst hbc
    refine Ev.bind (f := fun k t => _) (same_ev _ _ rfl hn) (ev_pos rfl ?_)
    exact Ev.bind (f := fun _ t => some t) works_ev (Ev.now _)
  | succ d ih =>
    intro i hi
    refine Ev.step (f := fun k => _) (fun k => by simp only [incunablelaw03_PackReads.l0]; rfl) ?_
    refine ev_pos (by omega) (ev_pos (by omega) ?_)
    rw [w64 (by omega) (by omega)]
    exact ih (i + 1) (by omega)
theorem PackReads : incunablelaw03_PackReads.Pure := by
  intro b hm hl hw
  have hB := BI_wf hw
  have hs := (unpackI_short b).1
  have hsm := unpackI_small b hB
  refine Ev.rounds ?_
  unfold incunablelaw03_PackReads.f
  refine ev_some (f := fun k t => _) (copy_some b (by omega)) ?_
  refine Ev.bind (f := fun k t => _) (size_ev b hB (by omega)) ?_
  refine Ev.bind (f := fun k t => _) (rsize_ev b hB (by omega)) ?_
  refine Ev.bind (f := fun k t => _) (unpack_ev b hB (by omega)) ?_
  refine Ev.bind (f := fun k t => _) (runpack_ev b hB (by omega)) ?_
  refine ev_pos rfl (ev_pos rfl (ev_pos rfl ?_))
  refine Ev.bind (f := fun k t => _) (sameS_ev (unpackI b).2.1 (by omega) (fun s h => by have := hsm s h; omega)) (ev_pos rfl ?_)
  refine Ev.step (f := fun k => _) (fun k => by simp only [incunablelaw03_PackReads.j0]; rfl) ?_
  refine ev_neg (by simp) ?_
  exact reads_loop b b (unpackI b).2.1 rfl (by omega) hs (unpackI b).2.1.length 0 (by omega)
end Go.Proofs.Ytpmikaoheaefiaa.Pure
