/- Packs: the document's answer to Pack; sections copied, found, bytes spoilt. -/
import Derived.Test.YtpmikaoheaefiaaXx16
import Derived.Test.YtpmikaoheaefiaaXx17
import Derived.Test.YtpmikaoheaefiaaXx13
import Derived.Test.YtpmikaoheaefiaaXx4
import Derived.Test.YtpmikaoheaefiaaXPkB
namespace Go.Proofs.Ytpmikaoheaefiaa.Pure
set_option linter.unusedVariables false
set_option linter.unusedSimpArgs false
open Go.RowKit Go.Proofs.Ytpmikaoheaefiaa.X Go.Proofs.YtpmikaoheaefiaaW.PrintWords Go.Proofs.YtpmikaoheaefiaaW.PrintLast Go.Proofs.YtpmikaoheaefiaaW.PrintMore

/-! Pack, by the document -/
theorem rpack_tail (kind : Int) (l : List S33) (hO : OKs l) (hsm : (secs l).length ≤ 1000000000) :
    Ev (fun k => if (wrap64 ((wrap64 (6 + ((kind % 256 :: secs l).length : Int))) + 4)) > 262144 then (some (([] : List Int), (5 : Int))) else ((some (([73, 80] : List Int) : List Int)).bind fun y315 => ((incunableref03_four.f (wrap64 ((wrap64 (6 + ((kind % 256 :: secs l).length : Int))) + 4))).bind fun t318 => (if y315.length + t318.length < 225179981368000 then ((some (y315 ++ t318 : List Int)).bind fun y321 => (if y321.length + (kind % 256 :: secs l).length < 225179981368000 then ((some (y321 ++ (kind % 256 :: secs l) : List Int)).bind fun y324 => ((incunableref02_Of.f k y324).bind fun t327 => ((incunableref03_four.f (wrap64 (t327))).bind fun t328 => (if y324.length + t328.length < 225179981368000 then (some ((y324 ++ t328), 0)) else (none))))) else (none))) else (none)))))
      (if 11 + (secs l).length ≤ 262144 then (sealI (packB kind l), 0) else ([], 5)) := by
  have e1 : wrap64 ((wrap64 (6 + ((kind % 256 :: secs l).length : Int))) + 4) = ((11 + (secs l).length : Nat) : Int) := by
    rw [List.length_cons, w64 (x := 6 + (((secs l).length + 1 : Nat) : Int)) (by omega) (by omega), w64 (by omega) (by omega)]; omega
  rw [e1]
  by_cases h : 11 + (secs l).length ≤ 262144
  · rw [if_pos h]
    refine ev_neg (by omega) ?_
    refine ev_some (f := fun k t => _) rfl ?_
    refine ev_some (f := fun k t => _) (show incunableref03_four.f _ = some (fourI _) from rfl) ?_
    refine ev_pos (by rw [fourI_length]; simp) ?_
    refine ev_some (f := fun k t => _) rfl ?_
    refine ev_pos (by rw [List.length_append, fourI_length]; simp; omega) ?_
    refine ev_some (f := fun k t => _) rfl ?_
    have hp : ([73, 80] ++ fourI ((11 + (secs l).length : Nat) : Int)) ++ (kind % 256 :: secs l) = packB kind l := by
      unfold packB
      rw [show 10 + (1 + (secs l).length) = 11 + (secs l).length by omega, List.append_assoc]
    rw [hp]
    have hl := packB_length kind l
    have hb := packB_BI kind l hO
    have hr := onI0_range _ hb
    refine Ev.bind (f := fun k t => _) (rof_ev (packB kind l) hb (by omega)) ?_
    rw [w64 (x := onI 0 (packB kind l)) (by omega) (by omega)]
    refine ev_some (f := fun k t => _) (show incunableref03_four.f _ = some (fourI _) from rfl) ?_
    refine ev_pos (by rw [fourI_length]; omega) ?_
    exact Ev.now _
  · rw [if_neg h]
    exact ev_pos (by omega) (Ev.now _)
theorem rpack_l1 (kind : Int) (l : List S33) (hn : l.length ≤ 255) (hO : OKs l) (d : Nat) : ∀ (i : Nat), i + d = l.length → (∀ s ∈ l.take i, s.f1.length ≤ 262144) → (∀ s ∈ l, s.f1.length ≤ 140737488355300) →
    Ev (fun k => incunableref03_Pack.l1 k l (kind % 256 :: secs (l.take i)) (i : Int)) (if ∀ s ∈ l, s.f1.length ≤ 262144 then (if 11 + (secs l).length ≤ 262144 then (sealI (packB kind l), 0) else ([], 5)) else ([], 5)) := by
  induction d with
  | zero =>
    intro i hi hs hbig
    have hil : i = l.length := by omega
    subst hil
    rw [List.take_length] at hs ⊢
    refine Ev.step (f := fun k => _) (fun k => by simp only [incunableref03_Pack.l1]; rfl) ?_
    refine ev_neg (by omega) ?_
    rw [if_pos hs]
    have := secs_take_le l l.length (by rw [List.take_length]; exact hs)
    rw [List.take_length] at this
    exact rpack_tail kind l hO (by omega)
  | succ d ih =>
    intro i hi hs hbig
    have hlt : i < l.length := by omega
    have h0 := secs_take_le l i hs
    refine Ev.step (f := fun k => _) (fun k => by simp only [incunableref03_Pack.l1]; rfl) ?_
    refine ev_pos (by omega) (ev_pos (by omega) ?_)
    rw [rd_row_T l i hlt]
    have hm : l[i] ∈ l := List.getElem_mem hlt
    refine Ev.bind (f := fun k t => _) (rtext_ev l[i].f1 262144 (hbig _ hm)) ?_
    by_cases h1 : l[i].f1.length ≤ 262144
    · rw [textI_ok l[i].f1 262144 (by omega)]
      refine ev_pos rfl (ev_pos (by rw [List.length_cons]; omega) ?_)
      refine ev_some (f := fun k t => _) rfl ?_
      have h3 := enc_le8 l[i].f1.length (by omega)
      refine ev_pos (by simp only [List.length_append, List.length_cons, List.length_nil]; omega) ?_
      have e : (kind % 256 :: secs (l.take i)) ++ [l[i].f0 % 256] ++ (enc l[i].f1.length ++ l[i].f1) = kind % 256 :: secs (l.take (i + 1)) := by
        rw [secs_take l i hlt]; simp [secB]
      rw [e, w64 (by omega) (by omega)]
      refine ih (i + 1) (by omega) (fun s hsm => ?_) hbig
      rw [List.take_succ_eq_append_getElem hlt] at hsm
      rcases List.mem_append.1 hsm with h4 | h4
      · exact hs s h4
      · rw [List.mem_singleton.1 h4]; exact h1
    · rw [show textI l[i].f1 262144 = ([], 5) by unfold textI; rw [if_neg (by omega), if_pos (by omega)]]
      rw [if_neg (fun h => h1 (h _ hm))]
      exact ev_neg (by decide) (Ev.now _)
theorem rpack_l0 (kind : Int) (l : List S33) (hn : l.length ≤ 4398046511104) (R : List Int × Int) (hR : chk 0 l = true → Ev (fun k => incunableref03_Pack.l1 k l [kind % 256] 0) R) (hR2 : ¬ chk 0 l = true → R = ([], 2)) (d : Nat) : ∀ (i : Nat) (last : Int), i + d = l.length → (chk 0 l = true ↔ chk last (l.drop i) = true) →
    Ev (fun k => incunableref03_Pack.l0 k kind l last (i : Int)) R := by
  induction d with
  | zero =>
    intro i last hi hc
    refine Ev.step (f := fun k => _) (fun k => by simp only [incunableref03_Pack.l0]; rfl) ?_
    rw [List.drop_eq_nil_of_le (by omega)] at hc
    exact ev_neg (by omega) (hR (hc.2 rfl))
  | succ d ih =>
    intro i last hi hc
    have hlt : i < l.length := by omega
    refine Ev.step (f := fun k => _) (fun k => by simp only [incunableref03_Pack.l0]; rfl) ?_
    refine ev_pos (by omega) (ev_pos (by omega) ?_)
    rw [drop_cons l i hlt, chk_cons] at hc
    rw [rd_row_T l i hlt]
    by_cases h1 : l[i].f0 ≤ last
    · rw [hR2 (fun h => by have := hc.1 h; omega)]
      exact ev_pos h1 (Ev.now _)
    refine ev_neg h1 ?_
    by_cases h2 : l[i].f0 > 255
    · rw [hR2 (fun h => by have := hc.1 h; omega)]
      exact ev_pos h2 (Ev.now _)
    refine ev_neg h2 ?_
    rw [w64 (by omega) (by omega)]
    exact ih (i + 1) _ (by omega) ⟨fun h => (hc.1 h).2.2, fun h => hc.2 ⟨by omega, by omega, h⟩⟩
theorem rpack_ev (kind : Int) (l : List S33) (hn : l.length ≤ 4398046511104) (hO : OKs l) (hbig : ∀ s ∈ l, s.f1.length ≤ 140737488355300) : Ev (fun k => incunableref03_Pack.f k kind l) (packI kind l) := by
  unfold incunableref03_Pack.f packI
  by_cases h0 : kind < 0
  · refine ev_pos h0 ?_
    refine Ev.step (f := fun k => _) (fun k => by simp only [incunableref03_Pack.j0]; rfl) ?_
    rw [if_neg (by unfold okay; rw [decide_eq_false (by omega)]; simp)]
    exact Ev.now _
  refine ev_neg h0 ?_
  refine Ev.step (f := fun k => _) (fun k => by simp only [incunableref03_Pack.j0]; rfl) ?_
  by_cases h1 : kind > 255
  · refine ev_pos (decide_eq_true h1) ?_
    rw [if_neg (by unfold okay; rw [decide_eq_false (by omega)]; simp)]
    exact Ev.now _
  refine ev_neg (by simp [h1]) ?_
  have hk : okay kind l = chk 0 l := by unfold okay; rw [decide_eq_true (show 0 ≤ kind ∧ kind ≤ 255 by omega), Bool.true_and]
  rw [hk]
  refine rpack_l0 kind l hn _ (fun h => ?_) (fun h => if_neg h) l.length 0 0 (by omega) (by rw [List.drop_zero])
  rw [if_pos h]
  have hlen := (okay_length kind l (by rw [hk]; exact h)).1
  have := rpack_l1 kind l hlen hO l.length 0 (by omega) (fun _ hx => by simp at hx) hbig
  simpa [secs] using this

/-! copies -/
theorem copyS_loop (l : List S33) (hn : l.length < 4398046511104) (hs : ∀ s ∈ l, s.f1.length < 225179981368000) (d : Nat) : ∀ i : Nat, i + d = l.length → Ev (fun k => incunableref03_Copy.l0 k l (l.take i) (i : Int)) l := by
  induction d with
  | zero =>
    intro i hi
    refine Ev.step (f := fun k => _) (fun k => by simp only [incunableref03_Copy.l0]; rfl) ?_
    rw [List.take_of_length_le (by omega)]
    exact ev_neg (by omega) (Ev.now _)
  | succ d ih =>
    intro i hi
    have hlt : i < l.length := by omega
    refine Ev.step (f := fun k => _) (fun k => by simp only [incunableref03_Copy.l0]; rfl) ?_
    refine ev_pos (by omega) (ev_pos (by omega) ?_)
    rw [rd_row_T l i hlt]
    refine ev_some (f := fun k t => _) (copy_some _ (hs _ (List.getElem_mem hlt))) ?_
    refine ev_pos (by rw [List.length_take]; omega) ?_
    rw [show (⟨l[i].f0, l[i].f1⟩ : S33) = l[i] from rfl, ← List.take_succ_eq_append_getElem hlt, w64 (by omega) (by omega)]
    exact ih (i + 1) (by omega)
theorem copyS_ev (l : List S33) (hn : l.length < 4398046511104) (hs : ∀ s ∈ l, s.f1.length < 225179981368000) : Ev (fun k => incunableref03_Copy.f k l) l := by
  have := copyS_loop l hn hs l.length 0 (by omega)
  rw [List.take_zero] at this
  exact this

/-! Find -/
def findAt (t : Int) : List S33 → Option Nat
  | [] => none
  | s :: r => if s.f0 = t then some 0 else (findAt t r).map (· + 1)
theorem index_loop (l : List S33) (hn : l.length ≤ 4398046511104) (t : Int) (d : Nat) : ∀ i : Nat, i + d = l.length →
    Ev (fun k => slices_IndexFunc_S.l0 k l t (i : Int)) (match findAt t (l.drop i) with | none => -1 | some j => ((i + j : Nat) : Int)) := by
  induction d with
  | zero =>
    intro i hi
    refine Ev.step (f := fun k => _) (fun k => by simp only [slices_IndexFunc_S.l0]; rfl) ?_
    rw [List.drop_eq_nil_of_le (by omega)]
    exact ev_neg (by omega) (Ev.now _)
  | succ d ih =>
    intro i hi
    have hlt : i < l.length := by omega
    refine Ev.step (f := fun k => _) (fun k => by simp only [slices_IndexFunc_S.l0]; rfl) ?_
    refine ev_pos (by omega) (ev_pos (by omega) ?_)
    rw [rd_row_T l i hlt, drop_cons l i hlt]
    unfold findAt
    by_cases h : l[i].f0 = t
    · rw [if_pos h]
      exact ev_pos h (Ev.now _)
    · rw [if_neg h, w64 (by omega) (by omega)]
      refine ev_neg h (ev_eq ?_ (ih (i + 1) (by omega)))
      cases findAt t (l.drop (i + 1)) with
      | none => rfl
      | some j => simp; omega
theorem findAt_lt (t : Int) (l : List S33) : ∀ j, findAt t l = some j → j < l.length := by
  induction l with
  | nil => intro j h; cases h
  | cons s r ih =>
    intro j h
    unfold findAt at h
    by_cases hs : s.f0 = t
    · rw [if_pos hs] at h
      cases h
      simp
    · rw [if_neg hs] at h
      obtain ⟨j', hj', rfl⟩ := Option.map_eq_some_iff.1 h
      have := ih j' hj'
      simp; omega
def findI (l : List S33) (t : Int) : List Int × Bool := match findAt t l with | none => ([], false) | some j => ((rd_T33 l (j : Int)).f1, true)
theorem find_ev (l : List S33) (hn : l.length ≤ 4398046511104) (hs : ∀ s ∈ l, s.f1.length < 225179981368000) (t : Int) : Ev (fun k => pack_Find.f k l t) (findI l t) := by
  unfold pack_Find.f findI
  have h := ev_eq (r' := match findAt t l with | none => (-1 : Int) | some j => (j : Int)) (by rw [List.drop_zero]; cases findAt t l <;> simp) (index_loop l hn t l.length 0 (by omega))
  refine Ev.bind (f := fun k i => _) h ?_
  cases hf : findAt t l with
  | none => exact ev_pos (by show (-1 : Int) < 0; omega) (Ev.now _)
  | some j =>
    have h1 := findAt_lt t l j hf
    dsimp only
    refine ev_neg (by omega) (ev_pos (by omega) ?_)
    rw [rd_row_T l j h1]
    refine ev_some (f := fun k t => _) (clone_some _ (hs _ (List.getElem_mem h1))) (Ev.now _)
theorem rfind_loop (l : List S33) (hn : l.length ≤ 4398046511104) (hs : ∀ s ∈ l, s.f1.length < 225179981368000) (t : Int) (d : Nat) : ∀ i : Nat, i + d = l.length →
    Ev (fun k => incunableref03_Find.l0 k l t (i : Int)) (match findAt t (l.drop i) with | none => ([], false) | some j => ((rd_T33 l ((i + j : Nat) : Int)).f1, true)) := by
  induction d with
  | zero =>
    intro i hi
    refine Ev.step (f := fun k => _) (fun k => by simp only [incunableref03_Find.l0]; rfl) ?_
    rw [List.drop_eq_nil_of_le (by omega)]
    exact ev_neg (by omega) (Ev.now _)
  | succ d ih =>
    intro i hi
    have hlt : i < l.length := by omega
    refine Ev.step (f := fun k => _) (fun k => by simp only [incunableref03_Find.l0]; rfl) ?_
    refine ev_pos (by omega) (ev_pos (by omega) ?_)
    rw [drop_cons l i hlt]
    unfold findAt
    by_cases h : l[i].f0 = t
    · rw [if_pos h]
      rw [rd_row_T l i hlt]
      refine ev_pos h ?_
      refine ev_some (f := fun k t => _) (copy_some _ (hs _ (List.getElem_mem hlt))) ?_
      refine ev_eq ?_ (Ev.now _)
      dsimp only
      rw [Nat.add_zero, rd_row_T l i hlt]
    · rw [if_neg h, w64 (by omega) (by omega)]
      refine ev_neg (by rw [rd_row_T l i hlt]; exact h) (ev_eq ?_ (ih (i + 1) (by omega)))
      cases findAt t (l.drop (i + 1)) with
      | none => rfl
      | some j =>
        simp only [Option.map_some]
        rw [show i + 1 + j = i + (j + 1) by omega]
theorem rfind_ev (l : List S33) (hn : l.length ≤ 4398046511104) (hs : ∀ s ∈ l, s.f1.length < 225179981368000) (t : Int) : Ev (fun k => incunableref03_Find.f k l t) (findI l t) := by
  have h := rfind_loop l hn hs t l.length 0 (by omega)
  unfold findI
  refine ev_eq ?_ h
  rw [List.drop_zero]
  cases findAt t l with
  | none => rfl
  | some j => simp only [Nat.zero_add]
theorem findI_length (l : List S33) (t : Int) (m : Nat) (hs : ∀ s ∈ l, s.f1.length ≤ m) : (findI l t).1.length ≤ m := by
  unfold findI
  cases hf : findAt t l with
  | none => simp
  | some j =>
    have h1 := findAt_lt t l j hf
    dsimp only
    rw [rd_row_T l j h1]
    exact hs _ (List.getElem_mem h1)

/-! bytes spoilt -/
theorem spoil_loop (d : Nat) : ∀ (i : Nat) (l : List Int), i + d = l.length → l.length ≤ 9223372036854775800 → ∃ r, Ev (fun k => incunablelaw03_spoil.l0 k l (i : Int)) r := by
  induction d with
  | zero =>
    intro i l hi hn
    refine ⟨l, Ev.step (f := fun k => _) (fun k => by simp only [incunablelaw03_spoil.l0]; rfl) ?_⟩
    exact ev_neg (by omega) (Ev.now _)
  | succ d ih =>
    intro i l hi hn
    obtain ⟨r, hr⟩ := ih (i + 1) (l.set i ((rd l (i : Int) + 1) % 256)) (by rw [List.length_set]; omega) (by rw [List.length_set]; exact hn)
    refine ⟨r, Ev.step (f := fun k => _) (fun k => by simp only [incunablelaw03_spoil.l0]; rfl) ?_⟩
    refine ev_pos (by omega) (ev_pos (by omega) ?_)
    rw [Int.toNat_natCast, w64 (by omega) (by omega)]
    exact hr
theorem spoil_ev (l : List Int) (hl : l.length ≤ 9223372036854775800) : ∃ r, Ev (fun k => incunablelaw03_spoil.f k l) r := spoil_loop l.length 0 l (by omega) hl
theorem packI_length (kind : Int) (l : List S33) : (packI kind l).1.length ≤ 262144 := by
  unfold packI
  split
  · split
    · split
      · rw [sealI_length, packB_length]; omega
      · simp
    · simp
  · simp
end Go.Proofs.Ytpmikaoheaefiaa.Pure
