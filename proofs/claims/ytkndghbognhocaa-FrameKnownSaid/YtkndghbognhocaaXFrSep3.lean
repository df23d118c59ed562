/- Both readers among things that lie apart; a byte is written. -/
import Derived.Test.YtkndghbognhocaaXFrSep2
import Derived.Test.YtkndghbognhocaaXFrRef
namespace Go.Proofs.Ytkndghbognhocaa.X
open Go.RowKit Go.Proofs.YtkndghbognhocaaW.PrintWords Go.Proofs.YtkndghbognhocaaW.PrintLast Go.Proofs.YtkndghbognhocaaW.PrintMore Go.Proofs.Ytkndghbognhocaa.Pure
set_option linter.unusedVariables false
theorem Sep.feedI {w W : World} {N : Nat} {Xs : List Thing} (h : Sep W N Xs) (i g : Nat) (l : List Int) (t : Bool) (hi : Xs[i]? = some (tRF w.heap.size g l t)) (hB : Below w.heap.size w W)
    (lb : List Int) (hl : l.length ≤ 1048576) (A1 : Option Addr) (n c1 : Nat) (hn : lb.length = n) (hb : CB W A1 n lb) (hc : n ≤ c1) (hlb : n ≤ 140737488351232)
    (L : List Int) (x : Int) (hL : (if l.length + lb.length ≤ 1048576 then l ++ lb else l) = L) (hx : (if l.length + lb.length ≤ 1048576 then (0 : Int) else 5) = x) :
    Calls Try.prog 17 #[.pointer (some ⟨g, 0, none⟩), .slice A1 n c1] W fun e W' => e = .returned (.int .i64 x) ∧ Sep W' W'.heap.size (Xs.set i (tRF w.heap.size g L t)) ∧ Below w.heap.size w W' ∧ W.heap.size ≤ W'.heap.size := by
  subst hn
  subst hL
  subst hx
  obtain ⟨S, hX, hS, hup⟩ := h.upd i _ hi
  refine (Feed_rf S g t l lb A1 c1 w W hB hX hl hb hc hlb).mono ?_
  rintro e W' ⟨rfl, hr, hB', hK⟩
  exact ⟨rfl, hup W' (tRF w.heap.size g _ t) hK (RD.bound hr), hB', hK.1⟩
theorem Sep.feedM {w W : World} {N : Nat} {Xs : List Thing} (h : Sep W N Xs) (i g : Nat) (l : List Int) (t : Bool) (hi : Xs[i]? = some (tRM w.heap.size g l t)) (hB : Below w.heap.size w W)
    (lb : List Int) (hl : l.length ≤ 1048576) (A1 : Option Addr) (n c1 : Nat) (hn : lb.length = n) (hb : CB W A1 n lb) (hc : n ≤ c1) (hlb : n ≤ 140737488351232)
    (L : List Int) (x : Int) (hL : (if l.length + lb.length ≤ 1048576 then l ++ lb else l) = L) (hx : (if l.length + lb.length ≤ 1048576 then (0 : Int) else 5) = x) :
    Calls Try.prog 18 #[.pointer (some ⟨g, 0, none⟩), .slice A1 n c1] W fun e W' => e = .returned (.int .i64 x) ∧ Sep W' W'.heap.size (Xs.set i (tRM w.heap.size g L t)) ∧ Below w.heap.size w W' ∧ W.heap.size ≤ W'.heap.size := by
  subst hn
  subst hL
  subst hx
  obtain ⟨S, hX, hS, hup⟩ := h.upd i _ hi
  refine (Feed_rm S g t l lb A1 c1 w W hB hX hl hb hc hlb).mono ?_
  rintro e W' ⟨rfl, hr, hB', hK⟩
  exact ⟨rfl, hup W' (tRM w.heap.size g _ t) hK (RD.bound hr), hB', hK.1⟩
theorem Sep.nextM {w W : World} {N : Nat} {Xs : List Thing} (h : Sep W N Xs) (i g : Nat) (l : List Int) (t : Bool) (hi : Xs[i]? = some (tRM w.heap.size g l t)) (hB : Below w.heap.size w W) (hBI : BI l) (hl : l.length ≤ 1048576)
    (r : (List Int × Bool × Int) × List Int × Bool) (hr : nextI l t = r) :
    Calls Try.prog 21 #[.pointer (some ⟨g, 0, none⟩)] W fun e W' => ∃ A n c, e = .returned (.tuple #[.slice A n c, .bool r.1.2.1, .int .i64 r.1.2.2]) ∧ r.1.1.length = n ∧ CB W' A n r.1.1 ∧ n ≤ c ∧ Sep W' W'.heap.size (Xs.set i (tRM w.heap.size g r.2.1 r.2.2)) ∧ Below w.heap.size w W' ∧ W.heap.size ≤ W'.heap.size := by
  subst hr
  obtain ⟨S, hX, hS, hup⟩ := h.upd i _ hi
  refine (rNext_calls S g t l hBI hl w W hB hX).mono ?_
  rintro e W' ⟨A, n, c, rfl, hn, hC, hc, hrm, hB', hK⟩
  have hrm2 : RM (nextI l t).2.2 W' w.heap.size (fun k => (S k ∨ W.heap.size ≤ k) ∧ k < W'.heap.size) g (nextI l t).2.1 := RD.mono (RD.bound hrm) (fun k hk => ⟨Or.inl hk.1, hk.2⟩)
  exact ⟨A, n, c, rfl, hn, hC, hc, hup W' (tRM w.heap.size g _ _) hK hrm2, hB', hK.1⟩
theorem Sep.rowM {W : World} {N base : Nat} {Xs : List Thing} (h : Sep W N Xs) (i g : Nat) (l : List Int) (t : Bool) (hi : Xs[i]? = some (tRM base g l t)) : ∃ A c, W.cell? ⟨g, 0, none⟩ = some (.slice A l.length c) := by
  obtain ⟨S, hX, _⟩ := h.get i _ hi
  obtain ⟨hg, hbg, v, hcell, hq⟩ := hX
  obtain ⟨A, c, rfl, hcap, hC⟩ := Kd.Q_reads hq
  exact ⟨A, c, blk_cell hcell 0⟩
theorem Sep.now {W : World} {N : Nat} {Xs : List Thing} (h : Sep W N Xs) : Sep W W.heap.size Xs := by
  obtain ⟨hN, om, hx⟩ := h
  exact ⟨Nat.le_refl _, om, fun i X hi => X.mono (hx i X hi) (fun k hk => ⟨hk.1, Nat.lt_of_lt_of_le hk.2 hN⟩)⟩
/-- A byte of one of them is written. -/
theorem Sep.put {w W : World} {N : Nat} {Xs : List Thing} (h : Sep W N Xs) (i : Nat) {g M c : Nat} {l : List Int} (hi : Xs[i]? = some (tB w.heap.size (.slice (some ⟨g, 0, none⟩) M c) l)) (hB : Below w.heap.size w W) (j : Int) (h0 : 0 ≤ j) (h1 : j < (M : Int)) :
    W.cell? ⟨g, j.toNat, none⟩ = some (.int .u8 (rd l j)) ∧ W.frozen? ⟨g, j.toNat, none⟩ = false ∧ ∀ y : Int, Sep (W.setCell ⟨g, j.toNat, none⟩ (.int .u8 y)) (W.setCell ⟨g, j.toNat, none⟩ (.int .u8 y)).heap.size (Xs.set i (tB w.heap.size (.slice (some ⟨g, 0, none⟩) M c) (l.set j.toNat y))) ∧ Below w.heap.size w (W.setCell ⟨g, j.toNat, none⟩ (.int .u8 y)) := by
  obtain ⟨S, hX, hS, hup⟩ := h.upd i _ hi
  have hX' : (Kd.int .u8).R 5 W w.heap.size S (.slice (some ⟨g, 0, none⟩) M c) l := hX
  have hc := Kd.R_celln (0 : Int) hX' j h0 h1
  have hSg : S g := hX'.1 g (by simp [Value.ownBlock])
  have hgb := Kd.R_base hX' g (by simp [Value.ownBlock])
  refine ⟨hc.1, hc.2, fun y => ⟨hup _ _ ((Kept.refl _ _).setCell (.inl hSg) _) ?_, hB.setCell hgb _⟩⟩
  have hP := Kd.R_putn hX' j y
  exact Kd.R_mono (Kd.R_bound hP) (fun k hk => ⟨.inl hk.1, hk.2.2.1⟩)
theorem Sep.form {W : World} {N base : Nat} {Xs : List Thing} (h : Sep W N Xs) (i : Nat) {A : Option Addr} {n c : Nat} {l : List Int} (hi : Xs[i]? = some (tB base (.slice A n c) l)) (hn : 0 < n) : ∃ g, A = some ⟨g, 0, none⟩ := by
  obtain ⟨S, hX, _⟩ := h.get i _ hi
  have hX' : (Kd.int .u8).R 5 W base S (.slice A n c) l := hX
  have hl := (RC hX').1
  obtain ⟨g, cap, he, _⟩ := Kd.R_form hX' (by omega)
  injection he with h1 h2 h3
  exact ⟨g, h1⟩
end Go.Proofs.Ytkndghbognhocaa.X
