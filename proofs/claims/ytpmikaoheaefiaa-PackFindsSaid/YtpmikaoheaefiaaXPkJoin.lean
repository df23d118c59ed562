/- slices.Concat of rows of bytes (for packs). -/
import Derived.Test.YtpmikaoheaefiaaXx9
import Derived.Test.YtpmikaoheaefiaaXVarMath
namespace Go.Proofs.Ytpmikaoheaefiaa.Pure
set_option linter.unusedVariables false
set_option linter.unusedSimpArgs false
open Go.RowKit Go.Proofs.Ytpmikaoheaefiaa.X Go.Proofs.YtpmikaoheaefiaaW.PrintWords Go.Proofs.YtpmikaoheaefiaaW.PrintLast Go.Proofs.YtpmikaoheaefiaaW.PrintMore
theorem rd_row (l : List (List Int)) (i : Nat) (h : i < l.length) : rd_L2 l (i : Int) = l[i] := by
  unfold rd_L2
  rw [Int.toNat_natCast, List.getD_eq_getElem?_getD, List.getElem?_eq_getElem h, Option.getD_some]
theorem flat_succ (l : List (List Int)) (i : Nat) (h : i < l.length) : (l.take (i + 1)).flatten = (l.take i).flatten ++ l[i] := by
  rw [List.take_succ_eq_append_getElem h, List.flatten_append]
  simp
theorem flat_le (l : List (List Int)) (i : Nat) : (l.take i).flatten.length ≤ l.flatten.length := by
  have : l.flatten = (l.take i).flatten ++ (l.drop i).flatten := by rw [← List.flatten_append, List.take_append_drop]
  rw [this, List.length_append]; omega
theorem row_le (l : List (List Int)) (i : Nat) (h : i < l.length) : l[i].length ≤ l.flatten.length := by
  have h1 := flat_le l (i + 1)
  rw [flat_succ l i h, List.length_append] at h1
  omega
theorem concat_l1 (l : List (List Int)) (hn : l.length ≤ 1048576) (hs : l.flatten.length ≤ 1048576) (d : Nat) : ∀ i : Nat, i + d = l.length → Ev (fun k => slices_Concat_byte_byte.l1 k (l.take i).flatten l (l.length : Int) (i : Int)) l.flatten := by
  induction d with
  | zero =>
    intro i hi
    refine Ev.step (f := fun k => _) (fun k => by simp only [slices_Concat_byte_byte.l1]; rfl) ?_
    refine ev_neg (by omega) ?_
    rw [List.take_of_length_le (by omega)]
    exact Ev.now _
  | succ d ih =>
    intro i hi
    refine Ev.step (f := fun k => _) (fun k => by simp only [slices_Concat_byte_byte.l1]; rfl) ?_
    have h1 := flat_le l i
    have h2 := row_le l i (by omega)
    rw [rd_row l i (by omega)]
    refine ev_pos (by omega) (ev_pos (by omega) (ev_pos (by omega) (ev_pos (by omega) ?_)))
    rw [← flat_succ l i (by omega), w64 (by omega) (by omega)]
    exact ih (i + 1) (by omega)
theorem concat_l0 (l : List (List Int)) (hn : l.length ≤ 1048576) (hs : l.flatten.length ≤ 1048576) (d : Nat) : ∀ i : Nat, i + d = l.length → Ev (fun k => slices_Concat_byte_byte.l0 k l ((l.take i).flatten.length : Int) l (l.length : Int) (i : Int)) l.flatten := by
  induction d with
  | zero =>
    intro i hi
    refine Ev.step (f := fun k => _) (fun k => by simp only [slices_Concat_byte_byte.l0]; rfl) ?_
    have h1 := flat_le l i
    refine ev_neg (by omega) ?_
    refine ev_some (f := fun k t => _) (a := ([] : List Int)) (by unfold slices_Grow_byte_byte.f; rw [if_pos (by omega)]) ?_
    exact concat_l1 l hn hs l.length 0 (by omega)
  | succ d ih =>
    intro i hi
    refine Ev.step (f := fun k => _) (fun k => by simp only [slices_Concat_byte_byte.l0]; rfl) ?_
    have h1 := flat_le l i
    have h2 := row_le l i (by omega)
    rw [rd_row l i (by omega), w64 (x := (i : Int) + 1) (by omega) (by omega), w64 (by omega) (by omega)]
    refine ev_pos (by omega) (ev_pos (by omega) (ev_pos (by omega) (ev_neg (by omega) ?_)))
    have := ih (i + 1) (by omega)
    rw [flat_succ l i (by omega), List.length_append] at this
    exact_mod_cast this
theorem concat_ev (l : List (List Int)) (hn : l.length ≤ 1048576) (hs : l.flatten.length ≤ 1048576) : Ev (fun k => slices_Concat_byte_byte.f k l) l.flatten := concat_l0 l hn hs l.length 0 (by omega)
end Go.Proofs.Ytpmikaoheaefiaa.Pure
