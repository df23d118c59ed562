/- Readers among things that lie apart: Feed, Next, all. -/
import Derived.Test.YtkndghbognhocaaXFrG3
namespace Go.Proofs.Ytkndghbognhocaa.X
open Go.RowKit Go.Proofs.YtkndghbognhocaaW.PrintWords Go.Proofs.YtkndghbognhocaaW.PrintLast Go.Proofs.YtkndghbognhocaaW.PrintMore Go.Proofs.Ytkndghbognhocaa.Pure
set_option linter.unusedVariables false
/-- One of them is taken and written, but does not grow; what is made besides is one more. -/
theorem Sep.upd2 {W : World} {N : Nat} {Xs : List Thing} (h : Sep W N Xs) (i : Nat) (X : Thing) (hi : Xs[i]? = some X) :
    ∃ S : Nat → Prop, X.P W S ∧ (∀ k, S k → k < N) ∧ ∀ (W' : World) (X' Y : Thing), Kept W W' S → X'.P W' S → Y.P W' (fun k => W.heap.size ≤ k ∧ k < W'.heap.size) → Sep W' W'.heap.size (Xs.set i X' ++ [Y]) := by
  obtain ⟨hN, om, hx⟩ := h
  refine ⟨fun k => om k = i ∧ k < N, hx i X hi, fun k hk => hk.2, fun W' X' Y hK hX' hY => ?_⟩
  have hil : i < Xs.length := (List.getElem?_eq_some_iff.1 hi).1
  refine ⟨Nat.le_refl _, fun k => if k < N then om k else if k < W.heap.size then Xs.length + 1 else Xs.length, fun j Z hj => ?_⟩
  rcases Nat.lt_trichotomy j Xs.length with hlt | heq | hgt
  · rw [List.getElem?_append_left (by simpa using hlt)] at hj
    by_cases hji : j = i
    · subst hji
      rw [List.getElem?_set_self hil] at hj
      injection hj with hj
      subst hj
      exact X'.mono hX' (fun k hk => ⟨by dsimp only; rw [if_pos hk.2]; exact hk.1, Nat.lt_of_lt_of_le hk.2 (Nat.le_trans hN hK.1)⟩)
    · rw [List.getElem?_set_ne (fun h => hji h.symm)] at hj
      have hZ := Z.step (hx j Z hj) (W' := W') (fun k hk hlt => hK.2 k hlt (fun hs => hji (hk.1.symm.trans hs.1)))
      exact Z.mono hZ (fun k hk => ⟨by dsimp only; rw [if_pos hk.2]; exact hk.1, Nat.lt_of_lt_of_le hk.2 (Nat.le_trans hN hK.1)⟩)
  · subst heq
    rw [List.getElem?_append_right (by simp), List.length_set, Nat.sub_self] at hj
    injection hj with hj
    subst hj
    exact Y.mono hY (fun k hk => ⟨by dsimp only; rw [if_neg (by omega), if_neg (by omega)], hk.2⟩)
  · rw [List.getElem?_eq_none (by simp; omega)] at hj
    cases hj
theorem Sep.feed {w W : World} {N : Nat} {Xs : List Thing} (h : Sep W N Xs) (i g : Nat) (l : List Int) (t : Bool) (hi : Xs[i]? = some (tRF w.heap.size g l t)) (hB : Below w.heap.size w W)
    (lb : List Int) (hll : l.length + lb.length ≤ 1048576) (A1 : Option Addr) (n c1 : Nat) (hn : lb.length = n) (hb : CB W A1 n lb) (hc : n ≤ c1) :
    Calls Try.prog 17 #[.pointer (some ⟨g, 0, none⟩), .slice A1 n c1] W fun e W' => e = .returned (.int .i64 0) ∧ Sep W' W'.heap.size (Xs.set i (tRF w.heap.size g (l ++ lb) t)) ∧ Below w.heap.size w W' ∧ W.heap.size ≤ W'.heap.size := by
  subst hn
  obtain ⟨S, hX, hS, hup⟩ := h.upd i _ hi
  refine (Feed_rf S g t l lb A1 c1 w W hB hX (by omega) hb hc (by omega)).mono ?_
  rintro e W' ⟨rfl, hr, hB', hK⟩
  rw [if_pos hll] at hr
  exact ⟨by rw [if_pos hll], hup W' (tRF w.heap.size g (l ++ lb) t) hK (RD.bound hr), hB', hK.1⟩
theorem Sep.next {w W : World} {N : Nat} {Xs : List Thing} (h : Sep W N Xs) (i g : Nat) (l : List Int) (t : Bool) (hi : Xs[i]? = some (tRF w.heap.size g l t)) (hB : Below w.heap.size w W) (hBI : BI l) (hl : l.length ≤ 1048576)
    (r : (List Int × Bool × Int) × List Int × Bool) (hr : nextI l t = r) :
    Calls Try.prog 20 #[.pointer (some ⟨g, 0, none⟩)] W fun e W' => ∃ v, e = .returned (.tuple #[v, .bool r.1.2.1, .int .i64 r.1.2.2]) ∧ (∃ A c, v = .slice A r.1.1.length c) ∧ Sep W' W'.heap.size (Xs.set i (tRF w.heap.size g r.2.1 r.2.2) ++ [tB w.heap.size v r.1.1]) ∧ Below w.heap.size w W' ∧ W.heap.size ≤ W'.heap.size := by
  subst hr
  obtain ⟨S, hX, hS, hup⟩ := h.upd2 i _ hi
  refine (Next_calls S g t l hBI hl w W hB hX).mono ?_
  rintro e W' ⟨v, rfl, hR, hrf, hB', hK⟩
  exact ⟨v, rfl, Kd.R_slice hR, hup W' (tRF w.heap.size g _ _) (tB w.heap.size v _) hK hrf (show (Kd.int .u8).R 5 W' w.heap.size (fun k => W.heap.size ≤ k ∧ k < W'.heap.size) v _ from Kd.R_lower (Kd.R_mono (Kd.R_bound hR) (fun k hk => ⟨hk.2.1, hk.2.2.1⟩)) hB.size), hB', hK.1⟩
theorem Sep.all {w W : World} {N : Nat} {Xs : List Thing} (h : Sep W N Xs) (i g : Nat) (l : List Int) (t : Bool) (hi : Xs[i]? = some (tRF w.heap.size g l t)) (hB : Below w.heap.size w W) (hBI : BI l) (hl : l.length ≤ 1048576)
    (r : List S49 × List Int × Bool) (hr : allI 1000 l t = r) :
    Calls Try.prog 23 #[.pointer (some ⟨g, 0, none⟩)] W fun e W' => ∃ v, e = .returned v ∧ (∃ A c, v = .slice A r.1.length c) ∧ Sep W' W'.heap.size (Xs.set i (tRF w.heap.size g r.2.1 r.2.2) ++ [tH w.heap.size v r.1]) ∧ Below w.heap.size w W' ∧ W.heap.size ≤ W'.heap.size := by
  subst hr
  obtain ⟨S, hX, hS, hup⟩ := h.upd2 i _ hi
  refine (all_calls S g t l hBI hl w W hB hX).mono ?_
  rintro e W' ⟨v, rfl, hN, hrf, hB', hK⟩
  exact ⟨v, rfl, Kd.N_slice hN, hup W' (tRF w.heap.size g _ _) (tH w.heap.size v _) hK hrf (show HN W' w.heap.size (fun k => W.heap.size ≤ k ∧ k < W'.heap.size) v _ from Kd.N_lower (Kd.N_bound hN) hB.size), hB', hK.1⟩
theorem Sep.waits {w W : World} {N : Nat} {Xs : List Thing} (h : Sep W N Xs) (i g : Nat) (l : List Int) (t : Bool) (hi : Xs[i]? = some (tRF w.heap.size g l t)) :
    Calls Try.prog 22 #[.pointer (some ⟨g, 0, none⟩)] W fun e W' => e = .returned (.int .i64 (l.length : Int)) ∧ W' = W := by
  obtain ⟨S, hX, _⟩ := h.get i _ hi
  exact Waits_rf g t l _ S W hX
theorem Sep.bytes {W : World} {N base : Nat} {Xs : List Thing} (h : Sep W N Xs) (i : Nat) {A : Option Addr} {n c : Nat} {l : List Int} (hi : Xs[i]? = some (tB base (.slice A n c) l)) : l.length = n ∧ CB W A n l ∧ n ≤ c := by
  obtain ⟨S, hX, _⟩ := h.get i _ hi
  exact RC hX
theorem Sep.heard {W : World} {N base : Nat} {Xs : List Thing} (h : Sep W N Xs) (i : Nat) {A : Option Addr} {n c : Nat} {l : List S49} (hi : Xs[i]? = some (tH base (.slice A n c) l)) : l.length = n ∧ CN W A n l ∧ n ≤ c := by
  obtain ⟨S, hX, _⟩ := h.get i _ hi
  have h2 := Kd.N_reads' hX
  have h1 := h2.1
  subst h1
  exact ⟨rfl, h2.2.2, h2.2.1⟩
/-- bytes of the call's own, new -/
theorem Sep.addB {w W W' : World} {N : Nat} {Xs : List Thing} (h : Sep W N Xs) (hB : Below w.heap.size w W) (hb : Below W.heap.size W W') {ok : Nat → Prop} {v : Value} {l : List Int} (hR : (Kd.int .u8).R 5 W' W.heap.size ok v l) : Sep W' W'.heap.size (Xs ++ [tB w.heap.size v l]) :=
  (h.below hb).add _ (show (Kd.int .u8).R 5 W' w.heap.size (fun k => N ≤ k ∧ k < W'.heap.size) v l from Kd.R_lower (Kd.R_mono (Kd.R_bound hR) (fun k hk => ⟨Nat.le_trans h.1 hk.2.1, hk.2.2.1⟩)) hB.size)
end Go.Proofs.Ytkndghbognhocaa.X
