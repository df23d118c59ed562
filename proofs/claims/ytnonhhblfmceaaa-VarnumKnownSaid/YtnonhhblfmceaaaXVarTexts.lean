/- Texts: written and read, cut. -/
import Derived.Test.YtnonhhblfmceaaaXx13
import Derived.Test.YtnonhhblfmceaaaXVarMore
namespace Go.Proofs.Ytnonhhblfmceaaa.Pure
set_option linter.unusedVariables false
open Go.RowKit Go.Proofs.Ytnonhhblfmceaaa.X Go.Proofs.YtnonhhblfmceaaaW.PrintWords Go.Proofs.YtnonhhblfmceaaaW.PrintLast Go.Proofs.YtnonhhblfmceaaaW.PrintMore

theorem textI_ok (t : List Int) (most : Int) (h : (t.length : Int) ≤ most) : textI t most = (enc t.length ++ t, 0) := by
  unfold textI
  rw [if_neg (by omega), if_neg (by omega)]
theorem takeTextI_of (l : List Int) (most : Int) (n s : Nat) (h : tk l = ((n : Int), (s : Int), 0)) (h0 : 0 ≤ most) :
    takeTextI l most = if (n : Int) > most then ([], [], 5) else if (n : Int) > ((l.drop s).length : Int) then ([], [], 3) else ((l.drop s).take n, (l.drop s).drop n, 0) := by
  unfold takeTextI
  rw [if_neg (by omega), takeI_ok l n s h, if_pos rfl]
  simp only [Int.toNat_natCast]
theorem takeTextI_bad (l : List Int) (most e : Int) (h : tk l = (0, 0, e)) (he : ¬ e = 0) (h0 : 0 ≤ most) : takeTextI l most = ([], [], e) := by
  unfold takeTextI
  rw [if_neg (by omega), takeI_err l e h he, if_neg he]
theorem takeTextI_enc (t r : List Int) (most : Int) (h : (t.length : Int) ≤ most) (hn : t.length ≤ 9007199254740991) : takeTextI (enc t.length ++ (t ++ r)) most = (t, r, 0) := by
  rw [takeTextI_of _ most _ _ (tk_enc t.length (t ++ r) hn) (by omega), if_neg (by omega), if_neg (by simp; omega)]
  simp
theorem takeTextI_cut (t : List Int) (most : Int) (c : Nat) (hc : c < (enc t.length ++ t).length) (h : (t.length : Int) ≤ most) (hn : t.length ≤ 9007199254740991) : takeTextI ((enc t.length ++ t).take c) most = ([], [], 3) := by
  by_cases h1 : c < (enc t.length).length
  · rw [List.take_append_of_le_length (by omega)]
    exact takeTextI_bad _ most 3 (tk_cut _ c h1 hn) (by decide) (by omega)
  · rw [List.take_append, List.take_of_length_le (by omega), takeTextI_of _ most _ _ (tk_enc t.length _ hn) (by omega), if_neg (by omega), if_pos (by
      rw [List.length_append] at hc
      simp; omega)]
/-- The texts of the statements: 5000 bytes of any. -/
theorem cut5 (l : List Int) : 0 ≤ mn (l.length : Int) 5000 ∧ mn (l.length : Int) 5000 ≤ (l.length : Int) ∧ (l.take (mn (l.length : Int) 5000).toNat).length ≤ 5000 := by
  have := mn_spec (l.length : Int) 5000
  refine ⟨by omega, by omega, ?_⟩
  rw [List.length_take]; omega
end Go.Proofs.Ytnonhhblfmceaaa.Pure
