/- PackFinds: of a pack's sections Find tells each one's data by its tag, and none by others: for all lists of bytes and tags that a machine can hold. -/
import Derived.Test.YtpmikaoheaefiaaXx27
import Derived.Test.YtpmikaoheaefiaaXx17
import Derived.Test.YtpmikaoheaefiaaXPkB
import Derived.Test.YtpmikaoheaefiaaXrPackFinds
namespace Go.Proofs.Ytpmikaoheaefiaa.Pure
set_option linter.unusedVariables false
set_option linter.unusedSimpArgs false
open Go.RowKit Go.Proofs.Ytpmikaoheaefiaa.X Go.Proofs.YtpmikaoheaefiaaW.PrintWords Go.Proofs.YtpmikaoheaefiaaW.PrintLast Go.Proofs.YtpmikaoheaefiaaW.PrintMore

/-- Where a tag stands first. -/
def findAt (t : Int) : List S33 → Option Nat
  | [] => none
  | s :: r => if s.f0 = t then some 0 else (findAt t r).map (· + 1)
theorem index_loop (l : List S33) (hn : l.length ≤ 4398046511104) (t : Int) (d : Nat) : ∀ i : Nat, i + d = l.length →
    Ev (fun k => slices_IndexFunc_S.l0 k l t (i : Int)) (match findAt t (l.drop i) with | none => -1 | some j => ((i + j : Nat) : Int)) := by
  induction d with
  | zero =>
    intro i hi
    refine Ev.step (f := fun k => _) (fun k => by simp only [slices_IndexFunc_S.l0]; rfl) ?_
    rw [List.drop_eq_nil_of_le (by omega)]
    exact ev_neg (by omega) (Ev.now _)
  | succ d ih =>
    intro i hi
    have hlt : i < l.length := by omega
    refine Ev.step (f := fun k => _) (fun k => by simp only [slices_IndexFunc_S.l0]; rfl) ?_
    refine ev_pos (by omega) (ev_pos (by omega) ?_)
    rw [rd_row_T l i hlt, drop_cons l i hlt]
    unfold findAt
    by_cases h : l[i].f0 = t
    · rw [if_pos h]
      exact ev_pos h (Ev.now _)
    · rw [if_neg h, w64 (by omega) (by omega)]
      refine ev_neg h (ev_eq ?_ (ih (i + 1) (by omega)))
      cases findAt t (l.drop (i + 1)) with
      | none => rfl
      | some j => simp; omega
theorem findAt_some (t : Int) (l : List S33) : ∀ j, findAt t l = some j → ∃ h : j < l.length, l[j].f0 = t ∧ ∀ i (hi : i < j), l[i].f0 ≠ t := by
  induction l with
  | nil => intro j h; cases h
  | cons s r ih =>
    intro j h
    unfold findAt at h
    by_cases hs : s.f0 = t
    · rw [if_pos hs] at h
      cases h
      exact ⟨by simp, hs, fun i hi => by omega⟩
    · rw [if_neg hs] at h
      obtain ⟨j', hj', rfl⟩ := Option.map_eq_some_iff.1 h
      obtain ⟨h1, h2, h3⟩ := ih j' hj'
      refine ⟨by simp; omega, h2, fun i hi => ?_⟩
      cases i with
      | zero => exact hs
      | succ i => exact h3 i (by omega)
theorem findAt_none (t : Int) (l : List S33) : findAt t l = none → ∀ s ∈ l, s.f0 ≠ t := by
  induction l with
  | nil => intro _ s hs; cases hs
  | cons x r ih =>
    intro h s hs
    unfold findAt at h
    by_cases hx : x.f0 = t
    · rw [if_pos hx] at h; cases h
    · rw [if_neg hx] at h
      rcases List.mem_cons.1 hs with rfl | hs
      · exact hx
      · exact ih (Option.map_eq_none_iff.1 h) s hs
theorem find_ev (l : List S33) (hn : l.length ≤ 4398046511104) (hs : ∀ s ∈ l, s.f1.length < 225179981368000) (t : Int) :
    Ev (fun k => pack_Find.f k l t) (match findAt t l with | none => ([], false) | some j => ((rd_T33 l (j : Int)).f1, true)) := by
  unfold pack_Find.f
  have h := ev_eq (r' := match findAt t l with | none => (-1 : Int) | some j => (j : Int)) (by rw [List.drop_zero]; cases findAt t l <;> simp) (index_loop l hn t l.length 0 (by omega))
  refine Ev.bind (f := fun k i => _) h ?_
  cases hf : findAt t l with
  | none => exact ev_pos (by show (-1 : Int) < 0; omega) (Ev.now _)
  | some j =>
    obtain ⟨h1, h2, h3⟩ := findAt_some t l j hf
    dsimp only
    refine ev_neg (by omega) (ev_pos (by omega) ?_)
    rw [rd_row_T l j h1]
    refine ev_some (f := fun k t => _) (clone_some _ (hs _ (List.getElem_mem h1))) (Ev.now _)
theorem chk_lt (l : List S33) : ∀ last : Int, chk last l = true → ∀ s ∈ l, last < s.f0 := by
  induction l with
  | nil => intro last _ s hs; cases hs
  | cons x r ih =>
    intro last h s hs
    obtain ⟨h1, h2, h3⟩ := (chk_cons _ _ _).1 h
    rcases List.mem_cons.1 hs with rfl | hs
    · exact h1
    · have := ih x.f0 h3 s hs; omega
theorem findAt_self (l : List S33) : ∀ last : Int, chk last l = true → ∀ i (hi : i < l.length), findAt l[i].f0 l = some i := by
  induction l with
  | nil => intro last _ i hi; simp at hi
  | cons x r ih =>
    intro last h i hi
    obtain ⟨h1, h2, h3⟩ := (chk_cons _ _ _).1 h
    unfold findAt
    cases i with
    | zero => exact if_pos rfl
    | succ i =>
      have hi' : i < r.length := by simp at hi; omega
      have h4 := chk_lt r x.f0 h3 r[i] (List.getElem_mem hi')
      show (if x.f0 = r[i].f0 then some 0 else (findAt r[i].f0 r).map (· + 1)) = some (i + 1)
      rw [if_neg (by omega), ih x.f0 h3 i hi']
      rfl
/-- The last place below i at which a tag stands; -1: at none. -/
theorem finds_loop (l : List S33) (hn : l.length ≤ 100) (hs : ∀ s ∈ l, s.f1.length ≤ 3000) (hc : chk 0 l = true) (t : Int) (d : Nat) : ∀ (i : Nat) (at_ : Int), i + d = l.length →
    ((0 ≤ at_ ∧ ∃ s ∈ l, s.f0 = t) ∨ (at_ = -1 ∧ ∀ s ∈ l.take i, s.f0 ≠ t)) → Ev (fun k => incunablelaw03_PackFinds.l0 k t l at_ (i : Int)) true := by
  have hbig : ∀ s ∈ l, s.f1.length < 225179981368000 := fun s h => by have := hs s h; omega
  induction d with
  | zero =>
    intro i at_ hi ha
    refine Ev.step (f := fun k => _) (fun k => by simp only [incunablelaw03_PackFinds.l0]; rfl) ?_
    refine ev_neg (by omega) ?_
    refine Ev.bind (f := fun k t => _) (find_ev l (by omega) hbig t) ?_
    refine ev_eq ?_ (Ev.now _)
    rw [List.take_of_length_le (by omega)] at ha
    cases hf : findAt t l with
    | none =>
      have := findAt_none t l hf
      rcases ha with ⟨_, s, h1, h2⟩ | ⟨h1, h2⟩
      · exact absurd h2 (this s h1)
      · subst h1; rfl
    | some j =>
      obtain ⟨h1, h2, h3⟩ := findAt_some t l j hf
      rcases ha with ⟨h4, _⟩ | ⟨h4, h5⟩
      · simp [h4]
      · exact absurd h2 (h5 _ (List.getElem_mem h1))
  | succ d ih =>
    intro i at_ hi ha
    have hlt : i < l.length := by omega
    refine Ev.step (f := fun k => _) (fun k => by simp only [incunablelaw03_PackFinds.l0]; rfl) ?_
    refine ev_pos (by omega) (ev_pos (by omega) ?_)
    rw [rd_row_T l i hlt]
    refine Ev.bind (f := fun k t => _) (find_ev l (by omega) hbig l[i].f0) ?_
    rw [findAt_self l 0 hc i hlt]
    dsimp only
    rw [rd_row_T l i hlt]
    refine ev_pos rfl ?_
    refine Ev.bind (f := fun k t => _) (same_ev _ _ rfl (by have := hs _ (List.getElem_mem hlt); omega)) ?_
    refine Ev.step (f := fun k => _) (fun k => by simp only [incunablelaw03_PackFinds.j1]; rfl) ?_
    refine ev_neg (by decide) (ev_pos (by omega) (ev_pos (by omega) ?_))
    rw [rd_row_T l i hlt, w64 (by omega) (by omega)]
    by_cases h : l[i].f0 = t
    · exact ev_pos h (ih (i + 1) (i : Int) (by omega) (.inl ⟨by omega, _, List.getElem_mem hlt, h⟩))
    · refine ev_neg h (ih (i + 1) at_ (by omega) ?_)
      rcases ha with ha | ⟨h4, h5⟩
      · exact .inl ha
      · refine .inr ⟨h4, fun s hsm => ?_⟩
        rw [List.take_succ_eq_append_getElem hlt] at hsm
        rcases List.mem_append.1 hsm with hsm | hsm
        · exact h5 s hsm
        · rw [List.mem_singleton.1 hsm]; exact h
theorem PackFinds : incunablelaw03_PackFinds.Pure := by
  intro l a hlm hl24 hrl hw ha
  obtain ⟨a0, a1⟩ := wf_i64 ha
  have hB : ∀ r ∈ l, BI r := fun r hr => BI_wf (hw r hr)
  obtain ⟨f1, f2, f3, f4, f5⟩ := madeI_facts l hB
  refine Ev.rounds ?_
  unfold incunablelaw03_PackFinds.f
  refine Ev.bind (f := fun k t => _) works_ev (ev_pos rfl ?_)
  refine Ev.bind (f := fun k t => _) (made_ev l (fun r hr => by have := hrl r hr; omega)) ?_
  obtain ⟨t, ht, t0, t1⟩ := bring_some a 260 a0 a1 (by omega) (by omega)
  refine ev_some (f := fun k t => _) ht ?_
  exact finds_loop (madeI l) (by omega) f2 f4 t (madeI l).length 0 (-1) (by omega) (.inr ⟨rfl, fun s hs => by simp at hs⟩)
end Go.Proofs.Ytpmikaoheaefiaa.Pure
