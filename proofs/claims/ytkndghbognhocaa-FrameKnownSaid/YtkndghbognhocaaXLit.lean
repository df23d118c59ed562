/-
The row of a constant string as bytes: made, marked by the conversion to its own type, and only read from then on.
-/
import Derived.Test.YtkndghbognhocaaWWords
import Derived.Test.YtkndghbognhocaaWShare
import Derived.Lib.SliceRun
namespace Go.Proofs.YtkndghbognhocaaW.PrintWords
open Go.RowKit

theorem calls_args {P : Program} {f : FuncId} {a b : Array Value} {w : World} {Q : Ending → World → Prop} (h : a = b) (hc : Calls P f b w Q) : Calls P f a w Q := h ▸ hc
theorem lit_cell (w : World) (a p : Addr) (n : Nat) : (w.freeze a n).cell? p = w.cell? p := by
  unfold World.freeze
  split
  · rfl
  · unfold World.cell?
    simp only [Array.getElem?_modify]
    by_cases h : a.block = p.block
    · rw [if_pos h]
      cases w.heap[p.block]? with
      | none => rfl
      | some o => cases o <;> rfl
    · rw [if_neg h]
theorem lit_below {B : Nat} {w w1 : World} (h : Below B w w1) (a : Addr) (n : Nat) (ha : B ≤ a.block) : Below B w (w1.freeze a n) := by
  unfold World.freeze
  split
  · exact h
  · exact ⟨h.os, h.tape, h.output, by simpa using h.size, fun k hk => by
      show (w1.heap.modify a.block _)[k]? = _
      rw [Array.getElem?_modify, if_neg (by omega)]
      exact h.block k hk⟩

namespace Kd
/-- A row that can be read. -/
def L {α : Type} (d : Kd α) (_e : Nat) (w : World) (base : Nat) (_ok : Nat → Prop) (v : Value) (xs : List α) : Prop := ∃ A c, v = .slice A xs.length c ∧ xs.length ≤ c ∧ d.C w A xs.length xs ∧ ∀ k, v.ownBlock = some k → base ≤ k ∧ k < w.heap.size
section
variable {α β : Type} {d : Kd α} {d' : Kd β} {e e' base base' N : Nat} {w w1 : World} {ok ok' : Nat → Prop} {u v : Value} {xs : List α} {ys : List β}
theorem L_below (h : d.L e w base ok v xs) (hb : Below w.heap.size w w1) : d.L e w1 base ok v xs := by
  obtain ⟨A, c, h1, h2, h3, h4⟩ := h
  exact ⟨A, c, h1, h2, C_below h3 hb, fun k hk => ⟨(h4 k hk).1, Nat.lt_of_lt_of_le (h4 k hk).2 hb.size⟩⟩
theorem L_alloc (h : d.L e w base ok v xs) (o : Obj) : d.L e (w.alloc o) base ok v xs := L_below h (below_alloc (Below.refl _ _) o)
theorem L_drew (h : d.L e w base ok v xs) : d.L e w.drew base ok v xs := L_below h (below_drew (Below.refl _ _))
theorem L_drewN (h : d.L e w base ok v xs) (m : Nat) : d.L e (w.drewN m) base ok v xs := L_below h (pw_below_drewN (Below.refl _ _) m)
theorem L_slice (h : d.L e w base ok v xs) : ∃ A c, v = .slice A xs.length c := by
  obtain ⟨A, c, h1, _⟩ := h
  exact ⟨A, c, h1⟩
theorem L_reads (h : d.L e w base ok v xs) : ∃ A c, v = .slice A xs.length c ∧ xs.length ≤ c ∧ d.C w A xs.length xs := by
  obtain ⟨A, c, h1, h2, h3, _⟩ := h
  exact ⟨A, c, h1, h2, h3⟩
theorem L_lt (h : d.L e w base ok v xs) : ∀ k, v.ownBlock = some k → k < w.heap.size := by
  obtain ⟨_, _, _, _, _, h⟩ := h
  exact fun k hk => (h k hk).2
theorem L_base (h : d.L e w base ok v xs) : ∀ k, v.ownBlock = some k → base ≤ k := by
  obtain ⟨_, _, _, _, _, h⟩ := h
  exact fun k hk => (h k hk).1
theorem L_mono (h : d.L e w base ok v xs) (_hok : ∀ k, ok k → ok' k) : d.L e w base ok' v xs := h
theorem L_lower (h : d.L e w base ok v xs) (hb : base' ≤ base) : d.L e w base' ok v xs := by
  obtain ⟨A, c, h1, h2, h3, h4⟩ := h
  exact ⟨A, c, h1, h2, h3, fun k hk => ⟨Nat.le_trans hb (h4 k hk).1, (h4 k hk).2⟩⟩
theorem L_elder' (h : d.L e w base ok v xs) (_hbase : ∀ k, u.ownBlock = some k → w.heap.size ≤ k) (hb : Below w.heap.size w w1) : d.L e w1 base (fun k => ok k ∧ some k ≠ u.ownBlock) v xs := L_below h hb
theorem L_elder (h : d.L e w base ok v xs) (_h2 : d'.R e' w1 w.heap.size ok' u ys) (hb : Below w.heap.size w w1) : d.L e w1 base (fun k => ok k ∧ some k ≠ u.ownBlock) v xs := L_below h hb
theorem L_old (h : d.L e w base ok v xs) (hb : Below w.heap.size w w1) : d.L e w1 base (fun k => ok k ∧ k < w.heap.size) v xs := L_below h hb
theorem L_told (h : d.L e w1 base (fun k => ok k ∧ k < N) v xs) (_hbase : ∀ k, u.ownBlock = some k → N ≤ k) : d.L e w1 base (fun k => (ok k ∧ some k ≠ u.ownBlock) ∧ k < N) v xs := h
theorem L_new' (h : d.L e w1 w.heap.size ok v xs) (_hlt : ∀ k, u.ownBlock = some k → k < w.heap.size) : d.L e w1 w.heap.size (fun k => ok k ∧ some k ≠ u.ownBlock) v xs := h
theorem L_grown (h : d.L e w base ok v xs) {row : Option Nat} (_hg : w.grownBy w1 row) (hb : Below w.heap.size w w1) : d.L e w1 base ok v xs := L_below h hb
theorem L_reads' {A : Option Addr} {n c : Nat} (h : d.L e w base ok (.slice A n c) xs) : n = xs.length ∧ n ≤ c ∧ d.C w A xs.length xs := by
  obtain ⟨A', c', h1, h2, h3, _⟩ := h
  injection h1 with a b c
  subst a; subst b; subst c
  exact ⟨rfl, h2, h3⟩
end
theorem C_freeze {k : IntKind} {w : World} {A : Option Addr} {n : Nat} {xs : List Int} (h : (Kd.int k).C w A n xs) (a : Addr) (m : Nat) : (Kd.int k).C (w.freeze a m) A n xs :=
  ⟨h.1, h.2.1, fun hn => by
    obtain ⟨ad, e, hc⟩ := h.2.2 hn
    refine ⟨ad, e, fun j p hj => ?_⟩
    obtain ⟨c, hs, hr, hcell⟩ := hc j p hj
    exact ⟨c, hs, hr, fun i u hu => by rw [lit_cell]; exact hcell i u hu⟩⟩
/-- The conversion to its own type marks the row. -/
theorem L_conv {P : Program} {t e : TypeId} (ht : P.underlying t = some (.slice e)) (he : P.underlying e = some (.int .u8)) {w0 W : World} {base b : Nat} {ok : Nat → Prop} {v : Value} {xs : List Int}
    (h : (Kd.int .u8).R e W base ok v xs) (hne : 0 < xs.length) (hB : Below b w0 W) (hb : b ≤ base) :
    ∃ W2, (convert t t v).run P W = .ok v W2 ∧ (Kd.int .u8).L e W2 base ok v xs ∧ Below b w0 W2 := by
  obtain ⟨A, c, rfl, hl, hC⟩ := R_reads h
  obtain ⟨inner, ho⟩ := R_own h
  obtain ⟨g, cap, hv, _, _⟩ := ho.form hne
  injection hv with hA _ _
  subst hA
  have hg : base ≤ g := own_base ho g (by simp [Value.ownBlock])
  obtain ⟨cells, hh⟩ := own_typed ho g (by simp [Value.ownBlock])
  have hsh : W.shape? g = some (e, cells.size) := by unfold World.shape?; rw [hh]
  refine ⟨W.freeze ⟨g, cells.size, none⟩ 1, ?_, ⟨_, _, rfl, hl, C_freeze hC _ _, fun k hk => ⟨own_base ho k hk, ?_⟩⟩, lit_below hB _ _ (Nat.le_trans hb hg)⟩
  · simp [convert, run_underlying ht, run_underlying he, markStringish, hsh]
  · have hlt := own_lt ho k hk
    simpa [World.freeze] using hlt
theorem lit_grown (w : World) (a : Addr) (n : Nat) : w.grownBy (w.freeze a n) (some a.block) := by
  unfold World.freeze
  split
  · exact ⟨rfl, rfl, rfl, Nat.le_refl _, fun _ _ _ => rfl⟩
  · exact ⟨rfl, rfl, rfl, by simp, fun k _ hk => by
      show (w.heap.modify a.block _)[k]? = _
      rw [Array.getElem?_modify, if_neg (fun e => hk (by rw [e]))]⟩
/-- The same, and what else there is stays. -/
theorem L_conv' {P : Program} {t e : TypeId} (ht : P.underlying t = some (.slice e)) (he : P.underlying e = some (.int .u8)) {w0 W : World} {base b : Nat} {ok : Nat → Prop} {v : Value} {xs : List Int}
    (h : (Kd.int .u8).R e W base ok v xs) (hne : 0 < xs.length) (hB : Below b w0 W) (hb : b ≤ base) :
    ∃ W2, (convert t t v).run P W = .ok v W2 ∧ (Kd.int .u8).L e W2 base ok v xs ∧ Below b w0 W2 ∧ W.grownBy W2 v.ownBlock := by
  obtain ⟨A, c, rfl, hl, hC⟩ := R_reads h
  obtain ⟨inner, ho⟩ := R_own h
  obtain ⟨g, cap, hv, _, _⟩ := ho.form hne
  injection hv with hA _ _
  subst hA
  have hg : base ≤ g := own_base ho g (by simp [Value.ownBlock])
  obtain ⟨cells, hh⟩ := own_typed ho g (by simp [Value.ownBlock])
  have hsh : W.shape? g = some (e, cells.size) := by unfold World.shape?; rw [hh]
  refine ⟨W.freeze ⟨g, cells.size, none⟩ 1, ?_, ⟨_, _, rfl, hl, C_freeze hC _ _, fun k hk => ⟨own_base ho k hk, ?_⟩⟩, lit_below hB _ _ (Nat.le_trans hb hg), lit_grown W ⟨g, cells.size, none⟩ 1⟩
  · simp [convert, run_underlying ht, run_underlying he, markStringish, hsh]
  · have hlt := own_lt ho k hk
    simpa [World.freeze] using hlt
/-- What is read of it hangs on its blocks alone. -/
theorem L_F {e : Nat} {W : World} {base : Nat} {ok : Nat → Prop} {A : Option Addr} {n cc : Nat} {xs : List Int} (h : (Kd.int .u8).L e W base ok (.slice A n cc) xs) : F (Kd.int .u8) W (fun _ => True) A n xs := by
  obtain ⟨A', c', he, hl, hC, _⟩ := h
  injection he with h1 h2 h3
  subst h1; subst h2; subst h3
  intro W' hW
  have hX := reads_of_C (enc := Value.int .u8) (d := (0 : Int)) (h1 := fun _ => rfl) hC
  refine C_of_reads (d := (0 : Int)) (h1 := fun _ => rfl) ⟨hX.1, hX.2.1, fun hn => ?_⟩
  obtain ⟨ad, hA, hc⟩ := hX.2.2 hn
  refine ⟨ad, hA, fun j hj => ?_⟩
  have h4 := hc j hj
  have hlt : (ad.add j).block < W.heap.size := by
    rcases Nat.lt_or_ge (ad.add j).block W.heap.size with h5 | h5
    · exact h5
    · unfold World.cell? at h4
      rw [Array.getElem?_eq_none h5] at h4
      simp at h4
  have h6 := hW _ trivial hlt
  unfold World.cell? at h4 ⊢
  rw [h6]
  exact h4
/-- C_below, told by the step ahead: the unifier is not asked for the elder world by its heap's size. -/
theorem C_belowB {α : Type} {d : Kd α} {w w1 : World} {B n : Nat} {A : Option Addr} {xs : List α} (h : d.C w A n xs) (hb : Below B w w1) (e : B = w.heap.size) : d.C w1 A n xs := by
  subst e
  exact C_below h hb
end Kd
end Go.Proofs.YtkndghbognhocaaW.PrintWords
