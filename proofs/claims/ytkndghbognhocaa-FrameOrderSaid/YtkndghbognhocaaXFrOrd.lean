/- Frames one behind the other, and what stands between, in plain lists. -/
import Derived.Test.YtkndghbognhocaaXFrPieces
namespace Go.Proofs.Ytkndghbognhocaa.Pure
set_option linter.unusedVariables false
set_option linter.unusedSimpArgs false
open Go.RowKit Go.Proofs.Ytkndghbognhocaa.X Go.Proofs.YtkndghbognhocaaW.PrintWords Go.Proofs.YtkndghbognhocaaW.PrintLast Go.Proofs.YtkndghbognhocaaW.PrintMore
theorem allC_step {l l' a : List Int} {t is t' : Bool} {e : Int} (h : nextI l t = ((a, is, e), l', t')) (hne : ¬ (is = false ∧ e = 0)) : allC l t = (⟨a, is, e⟩ :: (allC l' t').1, (allC l' t').2) := by
  have := allC_some (l := l) (t := t) (by rw [h]; exact hne)
  rw [this, h]
theorem allC_frame (x r : List Int) (t : Bool) (h : x.length ≤ 300000) : allC (frameL x ++ r) t = (⟨x, true, 0⟩ :: (allC r false).1, (allC r false).2) := allC_step (next_frame x r t h) (by simp)
/-- what stands between is told once -/
theorem allC_junk (j x r : List Int) (hj : ∀ y ∈ j, y ≠ 73) (h : x.length ≤ 300000) :
    allC (j ++ (frameL x ++ r)) false = ((if j = [] then [] else [⟨[], false, 4⟩]) ++ (⟨x, true, 0⟩ :: (allC r false).1), (allC r false).2) := by
  by_cases h0 : j = []
  · subst h0
    rw [if_pos rfl]
    exact allC_frame x r false h
  · rw [if_neg h0]
    have hsk : skipL (frameL x ++ r) = frameL x ++ r := skip_begins (by rw [frameL_eq]; exact begins_headL _ _ h)
    rw [allC_step (next_junk j (frameL x ++ r) hj h0) (by simp), hsk, allC_frame x r true h]
    rfl
/-- so far: whatever comes behind is answered behind -/
def Ord (B : List Int) (W : List S49) : Prop := ∀ r, allC (B ++ r) false = (W ++ (allC r false).1, (allC r false).2)
theorem Ord.nil : Ord [] [] := fun r => rfl
theorem Ord.more {B : List Int} {W : List S49} (h : Ord B W) (j x : List Int) (hj : ∀ y ∈ j, y ≠ 73) (hx : x.length ≤ 300000) :
    Ord (B ++ j ++ frameL x) (W ++ (if j = [] then [] else [⟨[], false, 4⟩]) ++ [⟨x, true, 0⟩]) := by
  intro r
  rw [List.append_assoc, List.append_assoc, h, allC_junk j x r hj hx]
  simp only [List.append_assoc, List.cons_append, List.nil_append]
theorem Ord.all {B : List Int} {W : List S49} (h : Ord B W) : allC B false = (W, [], false) := by
  have := h []
  rw [List.append_nil] at this
  rw [this, allC_none (l := []) (t := false) (by rw [next_nil]; exact ⟨rfl, rfl⟩), next_nil]
  simp
/-- rounds enough: more than there are answers -/
theorem all_count (n : Nat) : ∀ (l : List Int) (t : Bool), (allC l t).1.length < n → allI n l t = allC l t := by
  induction n with
  | zero => intro l t h; omega
  | succ n ih =>
    intro l t h
    by_cases hn : (nextI l t).1.2.1 = false ∧ (nextI l t).1.2.2 = 0
    · rw [allI_succ, if_pos hn, allC_none hn]
    · rw [allC_some hn] at h ⊢
      rw [allI_succ, if_neg hn, ih _ _ (by simp only [List.length_cons] at h; omega)]
end Go.Proofs.Ytkndghbognhocaa.Pure
namespace Go.Proofs.Ytkndghbognhocaa.X
open Go.RowKit Go.Proofs.YtkndghbognhocaaW.PrintWords Go.Proofs.YtkndghbognhocaaW.PrintLast Go.Proofs.YtkndghbognhocaaW.PrintMore Go.Proofs.Ytkndghbognhocaa.Pure
/-- rows of what was heard that may hold bytes of the arguments: all blocks below b0 are theirs -/
def tHP (b0 base : Nat) (v : Value) (xs : List S49) : Thing := ⟨fun W ok => (∀ k, k < b0 → ok k) ∧ HN W base ok v xs, fun h hk => ⟨fun k hb => hk k (h.1 k hb), Kd.N_mono h.2 hk⟩, fun h hm => ⟨h.1, Kd.N_step h.2 hm⟩⟩
theorem Sep.heardP {W : World} {N b0 base : Nat} {Xs : List Thing} (h : Sep W N Xs) (i : Nat) {A : Option Addr} {n c : Nat} {l : List S49} (hi : Xs[i]? = some (tHP b0 base (.slice A n c) l)) : l.length = n ∧ CN W A n l ∧ n ≤ c := by
  obtain ⟨S, hX, _⟩ := h.get i _ hi
  have h2 := Kd.N_reads' hX.2
  have h1 := h2.1
  subst h1
  exact ⟨rfl, h2.2.2, h2.2.1⟩
end Go.Proofs.Ytkndghbognhocaa.X
