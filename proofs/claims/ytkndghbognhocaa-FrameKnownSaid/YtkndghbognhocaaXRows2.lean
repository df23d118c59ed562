/-
Arguments of the statements' rows: a slice of rows of whole numbers, opened: what is read, what it weighs.
-/
import Derived.Test.YtkndghbognhocaaWMore
import Derived.Test.YtkndghbognhocaaWSized
import Derived.ChangeSame
import Derived.ChangeShapes
import Derived.WideShapes
import Derived.OpenShut
import Derived.SizedLaws
import Derived.Deep.Matrix
namespace Go.Proofs.YtkndghbognhocaaW.Rows
open Go.ChangeShapes Go.WideShapes Go.Proofs.YtkndghbognhocaaW.PrintWords
set_option linter.unusedVariables false
variable {H : Type} {enc : TypeId × Value → H} {P : Program} {w : World} {base : Nat} {held : Bool}

/-- what a row of numbers reads as -/
def RowDat (k : IntKind) (r : List Int) (z : DataW H) : Prop := (z = .nil ∧ r = []) ∨ ∃ s, z = .slice (lits k r) s
def RowsDat (k : IntKind) (l : List (List Int)) (d : DataW H) : Prop :=
  (d = .nil ∧ l = []) ∨ ∃ els sp, d = .slice els sp ∧ els.length = l.length ∧ ∀ (j : Nat) (r : List Int), l[j]? = some r → ∃ z, els[j]? = some z ∧ RowDat k r z

theorem open_rows {t e q : TypeId} {k : IntKind} {a : Option Addr} {len cap : Nat} {d : DataW H} {ps : List MemPlace} (ht : P.underlying t = some (.slice e)) (he : P.underlying e = some (.slice q)) (hq : P.underlying q = some (.int k))
    (ce : P.cellsOf e = 1) (cq : P.cellsOf q = 1) (h : DataW.Trod enc P w base (fun _ => true) held t (.slice a len cap) d ps) :
    ∃ l : List (List Int), len = l.length ∧ (Kd.slice q (Kd.int k)).C w a l.length l ∧ l.length ≤ cap ∧ l.length ≤ maxLen ∧ (∀ r ∈ l, ∀ x ∈ r, (Lit.int k x).wf = true) ∧ RowsDat k l d := by
  obtain ⟨fuel, hf⟩ := h
  rcases Deep.open_int_rows ht he hq ce cq hf with ⟨hcs, hx⟩ | ⟨ad, len', cap', A, L, C, Z, hcs, hb, hl, hm, hx, hrow⟩
  · simp [Value.cells] at hcs
    obtain ⟨rfl, rfl, rfl⟩ := hcs
    obtain ⟨hx, _⟩ := Prod.mk.inj hx
    exact ⟨[], rfl, ⟨rfl, by decide, fun h => absurd h (by decide)⟩, Nat.zero_le _, Nat.zero_le _, (fun r hr => by cases hr), Or.inl ⟨hx, rfl⟩⟩
  · simp [Value.cells] at hcs
    obtain ⟨rfl, rfl, rfl⟩ := hcs
    obtain ⟨hx, _⟩ := Prod.mk.inj hx
    have hlen : ∀ r, r < cap → ((Z r).take (L r)).length = L r := fun r hr => by
      obtain ⟨_, h1, _, h2, _⟩ := hrow r hr
      rw [List.length_take]; omega
    have hget : ∀ (j : Nat) (r : List Int), ((List.range len).map fun r => (Z r).take (L r))[j]? = some r → j < len ∧ r = (Z j).take (L j) := fun j r hj => by
      obtain ⟨h1, h2⟩ := List.getElem?_eq_some_iff.1 hj
      simp at h1 h2
      exact ⟨h1, h2.symm⟩
    have hin : ∀ r ∈ (List.range len).map fun r => (Z r).take (L r), ∃ j, j < len ∧ r = (Z j).take (L j) := fun r hr => by
      obtain ⟨j, hj, rfl⟩ := List.mem_map.1 hr
      exact ⟨j, List.mem_range.1 hj, rfl⟩
    refine ⟨(List.range len).map fun r => (Z r).take (L r), by simp, ⟨rfl, by simp only [maxLen] at hm; simp; omega, fun _ => ⟨ad, rfl, fun j p hj => ?_⟩⟩, by simpa using hl, by simp; omega, ?_, Or.inr ⟨_, _, hx, by simp, fun j r hj => ?_⟩⟩
    · obtain ⟨h1, rfl⟩ := hget j p hj
      obtain ⟨g1, g2, g3, g4, g5, g6, g7⟩ := hrow j (by omega)
      have hlj := hlen j (by omega)
      refine ⟨[.slice (A j) (L j) (C j)], rfl, ⟨A j, C j, by rw [hlj], by rw [hlj]; exact g2, ?_⟩, fun i u hu => ?_⟩
      · refine Kd.C_of_reads (d := (0 : Int)) (h1 := fun _ => rfl) ⟨rfl, by rw [hlj]; simp only [maxLen] at g3; omega, fun hn => ?_⟩
        cases hA : A j with
        | none => have := g6 hA; omega
        | some a' =>
          refine ⟨a', rfl, fun c hc => ?_⟩
          have hcc : c < L j := by omega
          rw [(g7 a' hA).2 c (by omega)]
          congr 2
          rw [List.getD_eq_getElem?_getD, List.getD_eq_getElem?_getD, List.getElem?_take_of_lt hcc]
      · cases i with
        | zero =>
          have : Value.slice (A j) (L j) (C j) = u := by simpa using hu
          subst this
          have e : (Kd.slice q (Kd.int k)).sz = 1 := rfl
          rw [e, Nat.mul_one, Nat.add_zero]
          exact g1
        | succ i => simp at hu
    · intro r hr x hx
      obtain ⟨j, hj, rfl⟩ := hin r hr
      exact (hrow j (by omega)).2.2.2.2.1 x (List.mem_of_mem_take hx)
    · obtain ⟨h1, rfl⟩ := hget j r hj
      obtain ⟨g1, g2, g3, g4, g5, g6, g7⟩ := hrow j (by omega)
      refine ⟨Deep.intRow k (A j) (L j) (Z j), by rw [List.getElem?_map, List.getElem?_range h1]; rfl, ?_⟩
      unfold Deep.intRow RowDat
      cases hA : A j with
      | none =>
        left
        refine ⟨rfl, List.eq_nil_of_length_eq_zero ?_⟩
        have := g6 hA
        have := hlen j (by omega)
        omega
      | some a' => exact Or.inr ⟨_, rfl⟩

theorem weightsAll_mem {e : TypeId} {z : DataW H} {n : Nat} (hn : n ∈ z.weights P e) : ∀ {els : List (DataW H)}, z ∈ els → n ∈ DataW.weightsAll P e els
  | x :: r, h => by
    simp only [DataW.weightsAll, List.mem_append]
    rcases List.mem_cons.1 h with rfl | h
    · exact .inl hn
    · exact .inr (weightsAll_mem hn h)
theorem lits_length (k : IntKind) (r : List Int) : (lits (H := H) k r).length = r.length := by simp [lits]

theorem sized_rows {t e q : TypeId} {k : IntKind} {ts : List TypeId} {ds : List (DataW H)} {j : Nat} {d : DataW H} {l : List (List Int)} (hsz : (DataW.weightsEach P ts ds).all (· ≤ reachBytes) = true) (hts : ts[j]? = some t) (hds : ds[j]? = some d)
    (ht : P.underlying t = some (.slice e)) (he : P.underlying e = some (.slice q)) {B1 B2 : Nat} (h1 : P.bytesOf e = B1) (h2 : P.bytesOf q = B2) (h : RowsDat k l d) :
    l.length * B1 ≤ 140737488351232 ∧ ∀ r ∈ l, r.length * B2 ≤ 140737488351232 := by
  subst h1; subst h2
  rcases h with ⟨rfl, rfl⟩ | ⟨els, sp, rfl, hl, hj⟩
  · exact ⟨by simp, fun r hr => by cases hr⟩
  · refine ⟨?_, fun r hr => ?_⟩
    · have := sized_slice hsz hts hds ht
      have h3 : l.length * P.bytesOf e ≤ (els.length + sp.length) * P.bytesOf e := Nat.mul_le_mul_right _ (by omega)
      exact Nat.le_trans h3 this
    · obtain ⟨i, hi⟩ := List.mem_iff_getElem?.1 hr
      obtain ⟨z, hz, hd⟩ := hj i r hi
      rcases hd with ⟨rfl, rfl⟩ | ⟨s, rfl⟩
      · simp
      · have hm : (DataW.slice (lits k r) s) ∈ els := List.mem_of_getElem? hz
        have h3 := List.all_eq_true.1 hsz _ (DataW.weights_mem_each hts hds ((r.length + s.length) * P.bytesOf q) (by
          simp only [DataW.weights, ht, List.mem_cons, List.mem_append]
          refine .inr (.inl (weightsAll_mem ?_ hm))
          simp [DataW.weights, he, lits_length]))
        have h4 : (r.length + s.length) * P.bytesOf q ≤ reachBytes := by simpa using h3
        have h5 : r.length * P.bytesOf q ≤ (r.length + s.length) * P.bytesOf q := Nat.mul_le_mul_right _ (by omega)
        exact Nat.le_trans h5 h4
end Go.Proofs.YtkndghbognhocaaW.Rows
