import Derived.SizedLaws
import Derived.ChangeSlices
import Derived.ChangeSame
import Derived.ChangeShapes
import Derived.WideShapes
import Derived.OpenShut
import Derived.Deep.Matrix
import Derived.Deep.SlicePairs
import Derived.Test.YtkeekganabafbaaXJBa0
import Derived.Test.YtkeekganabafbaaXJBa11
import Derived.Test.YtkeekganabafbaaXJBa6
import Derived.Test.YtkeekganabafbaaXJBa12
import Derived.Test.YtkeekganabafbaaXJBa2
/- Texts of this claim, joined. -/
section
namespace Go.Proofs.YtkeekganabafbaaW.PrintWords
open Go.ChangeShapes Go.WideShapes
end Go.Proofs.YtkeekganabafbaaW.PrintWords
end
section
namespace Go.Proofs.YtkeekganabafbaaW.Rows
open Go.ChangeShapes Go.WideShapes Go.Proofs.YtkeekganabafbaaW.PrintWords
set_option linter.unusedVariables false
variable {H : Type} {enc : TypeId × Value → H} {P : Program} {w : World} {base : Nat} {held : Bool}
def RowDat (k : IntKind) (r : List Int) (z : DataW H) : Prop := (z = .nil ∧ r = []) ∨ ∃ s, z = .slice (lits k r) s
def RowsDat (k : IntKind) (l : List (List Int)) (d : DataW H) : Prop :=
  (d = .nil ∧ l = []) ∨ ∃ els sp, d = .slice els sp ∧ els.length = l.length ∧ ∀ (j : Nat) (r : List Int), l[j]? = some r → ∃ z, els[j]? = some z ∧ RowDat k r z
theorem open_rows {t e q : TypeId} {k : IntKind} {a : Option Addr} {len cap : Nat} {d : DataW H} {ps : List MemPlace} (ht : P.underlying t = some (.slice e)) (he : P.underlying e = some (.slice q)) (hq : P.underlying q = some (.int k))
    (ce : P.cellsOf e = 1) (cq : P.cellsOf q = 1) (h : DataW.Trod enc P w base (fun _ => true) held t (.slice a len cap) d ps) :
    ∃ l : List (List Int), len = l.length ∧ (Kd.slice q (Kd.int k)).C w a l.length l ∧ l.length ≤ cap ∧ l.length ≤ maxLen ∧ (∀ r ∈ l, ∀ x ∈ r, (Lit.int k x).wf = true) ∧ RowsDat k l d := by
  obtain ⟨fuel, hf⟩ := h
  rcases Deep.open_int_rows ht he hq ce cq hf with ⟨hcs, hx⟩ | ⟨ad, len', cap', A, L, C, Z, hcs, hb, hl, hm, hx, hrow⟩
  · simp [Value.cells] at hcs
    obtain ⟨rfl, rfl, rfl⟩ := hcs
    obtain ⟨hx, _⟩ := Prod.mk.inj hx
    exact ⟨[], rfl, ⟨rfl, by decide, fun h => absurd h (by decide)⟩, Nat.zero_le _, Nat.zero_le _, (fun r hr => by cases hr), Or.inl ⟨hx, rfl⟩⟩
  simp [Value.cells] at hcs
  obtain ⟨rfl, rfl, rfl⟩ := hcs
  obtain ⟨hx, _⟩ := Prod.mk.inj hx
  have hlen : ∀ r, r < cap → ((Z r).take (L r)).length = L r := fun r hr => by
    obtain ⟨_, h1, _, h2, _⟩ := hrow r hr
    rw [List.length_take]; omega
  have hget : ∀ (j : Nat) (r : List Int), ((List.range len).map fun r => (Z r).take (L r))[j]? = some r → j < len ∧ r = (Z j).take (L j) := fun j r hj => by
    obtain ⟨h1, h2⟩ := List.getElem?_eq_some_iff.1 hj
    simp at h1 h2
    exact ⟨h1, h2.symm⟩
  have hin : ∀ r ∈ (List.range len).map fun r => (Z r).take (L r), ∃ j, j < len ∧ r = (Z j).take (L j) := fun r hr => by
    obtain ⟨j, hj, rfl⟩ := List.mem_map.1 hr
    exact ⟨j, List.mem_range.1 hj, rfl⟩
  refine ⟨(List.range len).map fun r => (Z r).take (L r), by simp, ⟨rfl, by simp only [maxLen] at hm; simp; omega, fun _ => ⟨ad, rfl, fun j p hj => ?_⟩⟩, by simpa using hl, by simp; omega, ?_, Or.inr ⟨_, _, hx, by simp, fun j r hj => ?_⟩⟩
  · obtain ⟨h1, rfl⟩ := hget j p hj
    obtain ⟨g1, g2, g3, g4, g5, g6, g7⟩ := hrow j (by omega)
    have hlj := hlen j (by omega)
    refine ⟨[.slice (A j) (L j) (C j)], rfl, ⟨A j, C j, by rw [hlj], by rw [hlj]; exact g2, ?_⟩, fun i u hu => ?_⟩
    · refine Kd.C_of_reads (d := (0 : Int)) (h1 := fun _ => rfl) ⟨rfl, by rw [hlj]; simp only [maxLen] at g3; omega, fun hn => ?_⟩
      cases hA : A j with
      | none => have := g6 hA; omega
      | some a' =>
        refine ⟨a', rfl, fun c hc => ?_⟩
        have hcc : c < L j := by omega
        rw [(g7 a' hA).2 c (by omega)]
        congr 2
        rw [List.getD_eq_getElem?_getD, List.getD_eq_getElem?_getD, List.getElem?_take_of_lt hcc]
    cases i with
    | zero =>
      have : Value.slice (A j) (L j) (C j) = u := by simpa using hu
      subst this
      have e : (Kd.slice q (Kd.int k)).sz = 1 := rfl
      rw [e, Nat.mul_one, Nat.add_zero]
      exact g1
    | succ i => simp at hu
  · intro r hr x hx
    obtain ⟨j, hj, rfl⟩ := hin r hr
    exact (hrow j (by omega)).2.2.2.2.1 x (List.mem_of_mem_take hx)
  obtain ⟨h1, rfl⟩ := hget j r hj
  obtain ⟨g1, g2, g3, g4, g5, g6, g7⟩ := hrow j (by omega)
  refine ⟨Deep.intRow k (A j) (L j) (Z j), by rw [List.getElem?_map, List.getElem?_range h1]; rfl, ?_⟩
  unfold Deep.intRow RowDat
  cases hA : A j with
  | none =>
    left
    refine ⟨rfl, List.eq_nil_of_length_eq_zero ?_⟩
    have := g6 hA
    have := hlen j (by omega)
    omega
  | some a' => exact Or.inr ⟨_, rfl⟩
theorem weightsAll_mem {e : TypeId} {z : DataW H} {n : Nat} (hn : n ∈ z.weights P e) : ∀ {els : List (DataW H)}, z ∈ els → n ∈ DataW.weightsAll P e els
  | x :: r, h => by
    simp only [DataW.weightsAll, List.mem_append]
    rcases List.mem_cons.1 h with rfl | h
    · exact .inl hn
    exact .inr (weightsAll_mem hn h)
theorem lits_length (k : IntKind) (r : List Int) : (lits (H := H) k r).length = r.length := by simp [lits]
theorem sized_rows {t e q : TypeId} {k : IntKind} {ts : List TypeId} {ds : List (DataW H)} {j : Nat} {d : DataW H} {l : List (List Int)} (hsz : (DataW.weightsEach P ts ds).all (· ≤ reachBytes) = true) (hts : ts[j]? = some t) (hds : ds[j]? = some d)
    (ht : P.underlying t = some (.slice e)) (he : P.underlying e = some (.slice q)) {B1 B2 : Nat} (h1 : P.bytesOf e = B1) (h2 : P.bytesOf q = B2) (h : RowsDat k l d) :
    l.length * B1 ≤ 140737488351232 ∧ ∀ r ∈ l, r.length * B2 ≤ 140737488351232 := by
  subst h1; subst h2
  rcases h with ⟨rfl, rfl⟩ | ⟨els, sp, rfl, hl, hj⟩
  · exact ⟨by simp, fun r hr => by cases hr⟩
  refine ⟨?_, fun r hr => ?_⟩
  · have := sized_slice hsz hts hds ht
    have h3 : l.length * P.bytesOf e ≤ (els.length + sp.length) * P.bytesOf e := Nat.mul_le_mul_right _ (by omega)
    exact Nat.le_trans h3 this
  obtain ⟨i, hi⟩ := List.mem_iff_getElem?.1 hr
  obtain ⟨z, hz, hd⟩ := hj i r hi
  rcases hd with ⟨rfl, rfl⟩ | ⟨s, rfl⟩
  · simp
  have hm : (DataW.slice (lits k r) s) ∈ els := List.mem_of_getElem? hz
  have h3 := List.all_eq_true.1 hsz _ (DataW.weights_mem_each hts hds ((r.length + s.length) * P.bytesOf q) (by
    simp only [DataW.weights, ht, List.mem_cons, List.mem_append]
    refine .inr (.inl (weightsAll_mem ?_ hm))
    simp [DataW.weights, he, lits_length]))
  have h4 : (r.length + s.length) * P.bytesOf q ≤ reachBytes := by simpa using h3
  have h5 : r.length * P.bytesOf q ≤ (r.length + s.length) * P.bytesOf q := Nat.mul_le_mul_right _ (by omega)
  exact Nat.le_trans h5 h4
end Go.Proofs.YtkeekganabafbaaW.Rows
end
section
namespace Go.Proofs.Ytkeekganabafbaa.X
open Go.RowKit Go.ChangeShapes Go.WideShapes Go.Proofs.YtkeekganabafbaaW.PrintWords Go.Proofs.YtkeekganabafbaaW.PrintLast Go.Proofs.YtkeekganabafbaaW.PrintMore Go.Proofs.YtkeekganabafbaaW.Rows
set_option linter.unusedVariables false
variable {H : Type} {enc : TypeId × Value → H} {w : World} {base : Nat} {held : Bool}
theorem open_row {fuel : Nat} {t q : TypeId} {cs : List Value} {x : DataW H × List MemPlace} (ht : Try.prog.underlying t = some (.slice q)) (hq : Try.prog.underlying q = some (.int .i64)) (cq : Try.prog.cellsOf q = 1)
    (h : DataW.trod enc Try.prog w base (fun _ => true) held fuel t cs = some x) : ∃ (l : List Int) (A : Option Addr) (c : Nat), cs = [.slice A l.length c] ∧ l.length ≤ c ∧ l.length ≤ maxLen ∧ (Kd.int .i64).C w A l.length l ∧ (∀ y ∈ l, (Lit.int .i64 y).wf = true) ∧ RowDat .i64 l x.1 := by
  rcases open_ints ht hq cq h with ⟨hcs, hy⟩ | ⟨a', len', cap', zs, hcs, hb', hl', hm', hzl, hy, hcell, hwz⟩
  · subst hy
    exact ⟨[], none, 0, hcs, Nat.le_refl _, Nat.zero_le _, Kd.C_nil _ _, (fun y hy => by cases hy), .inl ⟨rfl, rfl⟩⟩
  subst hy
  simp only [if_true] at hzl
  have hlen : (zs.take len').length = len' := by rw [List.length_take]; omega
  refine ⟨zs.take len', some a', cap', by rw [hlen]; exact hcs, by rw [hlen]; exact hl', by rw [hlen]; simp only [maxLen] at hm' ⊢; omega, ?_, (fun y hy => hwz y (List.mem_of_mem_take hy)), .inr ⟨_, rfl⟩⟩
  refine Kd.C_of_reads (d := (0 : Int)) (h1 := fun _ => rfl) ⟨rfl, by rw [hlen]; simp only [maxLen] at hm'; omega, fun hn => ⟨a', rfl, fun c hc => ?_⟩⟩
  have hcc : c < len' := by have hc2 : c < (zs.take len').length := hc; omega
  rw [hcell c (by omega), List.getD_eq_getElem?_getD, List.getD_eq_getElem?_getD, List.getElem?_take_of_lt hcc]
theorem slice_cell {fuel : Nat} {t e : TypeId} {cs : List Value} {x : DataW H × List MemPlace} (ht : Try.prog.underlying t = some (.slice e)) (h : DataW.trod enc Try.prog w base (fun _ => true) held fuel t cs = some x) : ∃ A n c, cs = [.slice A n c] := by
  rcases DataW.trod_slice ht h with ⟨h0, _⟩ | ⟨a, len, cap, _, _, _, _, h0, _⟩
  · exact ⟨none, 0, 0, h0⟩
  exact ⟨some a, len, cap, h0⟩
theorem open_rowsL {fuel : Nat} {t e q : TypeId} {cs : List Value} {x : DataW H × List MemPlace} (ht : Try.prog.underlying t = some (.slice e)) (he : Try.prog.underlying e = some (.slice q)) (hq : Try.prog.underlying q = some (.int .i64)) (ce : Try.prog.cellsOf e = 1) (cq : Try.prog.cellsOf q = 1)
    (h : DataW.trod enc Try.prog w base (fun _ => true) held fuel t cs = some x) : ∃ (l : List (List Int)) (A : Option Addr) (c : Nat), cs = [.slice A l.length c] ∧ l.length ≤ c ∧ l.length ≤ maxLen ∧ (Kd.slice q (Kd.int .i64)).C w A l.length l ∧ RowsDat .i64 l x.1 := by
  obtain ⟨A, n, c, hcs⟩ := slice_cell ht h
  subst hcs
  obtain ⟨l, hl, hC, hc, hm, _, hD⟩ := open_rows (d := x.1) (ps := x.2) ht he hq ce cq ⟨fuel, h⟩
  subst hl
  exact ⟨l, A, c, rfl, hc, hm, hC, hD⟩
def LenDat {α : Type} (l : List α) (z : DataW H) : Prop := (z = .nil ∧ l = []) ∨ ∃ els sp, z = .slice els sp ∧ els.length = l.length
def LensDat {α : Type} (l : List (List α)) (d : DataW H) : Prop := (d = .nil ∧ l = []) ∨ ∃ els sp, d = .slice els sp ∧ els.length = l.length ∧ ∀ (j : Nat) (r : List α), l[j]? = some r → ∃ z, els[j]? = some z ∧ LenDat r z
theorem cells38 : Try.prog.cellsOf 38 = 2 := by kernel_rfl
theorem cells39 : Try.prog.cellsOf 39 = 1 := by kernel_rfl
theorem cells3 : Try.prog.cellsOf 3 = 1 := by kernel_rfl
theorem cells24 : Try.prog.cellsOf 24 = 1 := by kernel_rfl
theorem open_acts {fuel : Nat} {cs : List Value} {x : DataW H × List MemPlace} (h : DataW.trod enc Try.prog w base (fun _ => true) held fuel 39 cs = some x) : ∃ (l : List S38) (A : Option Addr) (c : Nat), cs = [.slice A l.length c] ∧ l.length ≤ c ∧ l.length ≤ maxLen ∧ k38.C w A l.length l ∧ LenDat l x.1 := by
  rcases Deep.open_slice_pairs Try.underlying39 Try.underlying38 cells38 rfl rfl cells3 cells3 h with ⟨hcs, hx⟩ | ⟨ad, len, cap, m, n, V0, V1, D0, D1, Q0, Q1, hcs, hb, hl, hm, hmm, hx, hrow⟩
  · exact ⟨[], none, 0, hcs, Nat.le_refl _, Nat.zero_le _, Kd.C_nil _ _, .inl ⟨by rw [hx], rfl⟩⟩
  simp only [if_true] at hmm
  subst hmm
  have each : ∀ r, r < len → ∃ y : S38, V0 r = .int .i64 y.f0 ∧ V1 r = .int .i64 y.f1 := by
    intro r hr
    obtain ⟨_, _, h3, h4⟩ := hrow r (by omega)
    obtain ⟨z0, hz0, _, _⟩ := DataW.trod_int Try.underlying3 h3
    obtain ⟨z1, hz1, _, _⟩ := DataW.trod_int Try.underlying3 h4
    exact ⟨⟨z0, z1⟩, by simpa using hz0, by simpa using hz1⟩
  haveI : Inhabited S38 := ⟨⟨0, 0⟩⟩
  obtain ⟨y, hy⟩ := Deep.choose_lt each
  have hget : ∀ (j : Nat) (s : S38), ((List.range len).map y)[j]? = some s → j < len ∧ s = y j := fun j s hj => by
    obtain ⟨h1, h2⟩ := List.getElem?_eq_some_iff.1 hj
    simp at h1 h2
    exact ⟨h1, h2.symm⟩
  refine ⟨(List.range len).map y, some ad, m, by simpa using hcs, by simpa using hl, by simp; omega, ⟨rfl, by simp only [maxLen] at hm; simp; omega, fun _ => ⟨ad, rfl, fun j p hj => ?_⟩⟩, .inr ⟨_, _, by rw [hx], by simp⟩⟩
  obtain ⟨h1, rfl⟩ := hget j p hj
  obtain ⟨g1, g2, _, _⟩ := hrow j (by omega)
  obtain ⟨e1, e2⟩ := hy j h1
  refine ⟨[.int .i64 (y j).f0, .int .i64 (y j).f1], rfl, k38_mk w (y j), fun i u hu => ?_⟩
  rcases i with _ | _ | i
  · injection hu with hu
    subst hu
    rw [show k38.sz = 2 from rfl, Nat.add_zero, ← e1]
    exact g1
  · injection hu with hu
    subst hu
    rw [show k38.sz = 2 from rfl, ← e2]
    exact g2
  simp at hu
theorem open_actrows {fuel : Nat} {cs : List Value} {x : DataW H × List MemPlace} (h : DataW.trod enc Try.prog w base (fun _ => true) held fuel 27 cs = some x) : ∃ (l : List (List S38)) (A : Option Addr) (c : Nat), cs = [.slice A l.length c] ∧ l.length ≤ c ∧ l.length ≤ maxLen ∧ (Kd.slice 38 k38).C w A l.length l ∧ LensDat l x.1 := by
  rcases Deep.open_slice1 Try.underlying27 cells39 h with ⟨hcs, hx⟩ | ⟨ad, len, cap, m, n, V, D, Q, hcs, hb, hl, hm, hmm, hx, hrow⟩
  · exact ⟨[], none, 0, hcs, Nat.le_refl _, Nat.zero_le _, Kd.C_nil _ _, .inl ⟨by rw [hx], rfl⟩⟩
  simp only [if_true] at hmm
  subst hmm
  have each : ∀ r, r < len → ∃ y : List S38, LenDat y (D r) ∧ ∃ A c, V r = .slice A y.length c ∧ y.length ≤ c ∧ k38.C w A y.length y := by
    intro r hr
    obtain ⟨_, h3⟩ := hrow r (by omega)
    obtain ⟨l, A, c, e, h4, h5, h6, h7⟩ := open_acts h3
    exact ⟨l, h7, A, c, by simpa using e, h4, h6⟩
  haveI : Inhabited (List S38) := ⟨[]⟩
  obtain ⟨y, hy⟩ := Deep.choose_lt each
  have hget : ∀ (j : Nat) (s : List S38), ((List.range len).map y)[j]? = some s → j < len ∧ s = y j := fun j s hj => by
    obtain ⟨h1, h2⟩ := List.getElem?_eq_some_iff.1 hj
    simp at h1 h2
    exact ⟨h1, h2.symm⟩
  have hin : ∀ s ∈ (List.range len).map y, ∃ j, j < len ∧ s = y j := fun s hs => by
    obtain ⟨j, hj, rfl⟩ := List.mem_map.1 hs
    exact ⟨j, List.mem_range.1 hj, rfl⟩
  refine ⟨(List.range len).map y, some ad, m, by simpa using hcs, by simpa using hl, by simp; omega, ⟨rfl, by simp only [maxLen] at hm; simp; omega, fun _ => ⟨ad, rfl, fun j p hj => ?_⟩⟩, .inr ⟨_, _, by rw [hx], by simp, fun j r hj => ?_⟩⟩
  · obtain ⟨h1, rfl⟩ := hget j p hj
    obtain ⟨g1, _⟩ := hrow j (by omega)
    obtain ⟨_, A, c, e1, e2, e3⟩ := hy j h1
    refine ⟨[.slice A (y j).length c], rfl, ⟨A, c, rfl, e2, e3⟩, fun i u hu => ?_⟩
    rcases i with _ | i
    · injection hu with hu
      subst hu
      rw [show (Kd.slice 38 k38).sz = 1 from rfl, Nat.mul_one, Nat.add_zero, ← e1]
      exact g1
    simp at hu
  obtain ⟨h1, rfl⟩ := hget j r hj
  exact ⟨D j, by simp [h1], (hy j h1).1⟩
theorem list_ints : ∀ (C : List Value), (∀ i, i < C.length → ∃ z, C[i]? = some (.int .i64 z) ∧ (Lit.int .i64 z).wf = true) → ∃ l : List Int, C = l.map (Value.int .i64) ∧ ∀ z ∈ l, (Lit.int .i64 z).wf = true
  | [], _ => ⟨[], rfl, fun z hz => by cases hz⟩
  | v :: C, h => by
    obtain ⟨z, hz, hw⟩ := h 0 (by simp)
    injection hz with hz
    obtain ⟨l, hl, hws⟩ := list_ints C (fun i hi => by have := h (i + 1) (by simpa using hi); simpa using this)
    refine ⟨z :: l, by rw [hz, hl]; rfl, fun y hy => ?_⟩
    rcases List.mem_cons.1 hy with rfl | hy
    · exact hw
    exact hws y hy
theorem drop_one {L : List Value} {k : Nat} {v : Value} (h : (L.drop k).take 1 = [v]) : L.drop k = v :: L.drop (k + 1) := by
  rcases hq : L.drop k with _ | ⟨a, r⟩
  · rw [hq] at h; cases h
  rw [hq] at h
  have h1 : a = v := by simpa using h
  have h2 : L.drop (k + 1) = r := by rw [← List.drop_drop, hq]; rfl
  rw [h1, h2]
theorem six {α : Type} {l : List α} (h : l.length = 6) : ∃ a b c d e f, l = [a, b, c, d, e, f] := by
  rcases l with _ | ⟨a, _ | ⟨b, _ | ⟨c, _ | ⟨d, _ | ⟨e, _ | ⟨f, _ | ⟨g, l⟩⟩⟩⟩⟩⟩⟩
  case cons.cons.cons.cons.cons.cons.nil => exact ⟨a, b, c, d, e, f, rfl⟩
  all_goals simp at h
theorem three {α : Type} {l : List α} (h : l.length = 3) : ∃ a b c, l = [a, b, c] := by
  rcases l with _ | ⟨a, _ | ⟨b, _ | ⟨c, _ | ⟨g, l⟩⟩⟩⟩
  case cons.cons.cons.nil => exact ⟨a, b, c, rfl⟩
  all_goals simp at h
theorem cells22 : Try.prog.cellsOf 22 = 256 := by kernel_rfl
theorem cells26 : Try.prog.cellsOf 26 = 258 := by kernel_rfl
theorem cells29 : Try.prog.cellsOf 29 = 263 := by kernel_rfl
theorem cells23 : Try.prog.cellsOf 23 = 1 := by kernel_rfl
theorem cells27 : Try.prog.cellsOf 27 = 1 := by kernel_rfl
def TabDat (T : Tab) (d : DataW H) : Prop := ∃ dc dn dr dt da dg dl ds, d = .agg [.agg [dc, dn, dr], dt, da, dg, dl, ds] ∧ RowsDat .i64 T.next dn ∧ RowDat .i64 T.rule dr ∧ RowDat .i64 T.terms dt ∧ LensDat T.action da ∧ RowsDat .i64 T.goto dg ∧ RowDat .i64 T.left dl ∧ RowDat .i64 T.size ds
set_option maxRecDepth 10000 in
theorem open_tables {cs : Array Value} {d : DataW H} {ps : List MemPlace} (h : DataW.Trod enc Try.prog w base (fun _ => true) held 29 (.agg cs) d ps) :
    ∃ (T : Tab) (p : TL), cs = (tcells T p).toArray ∧ TabR w T p ∧ (∀ k ∈ T.cls, (Lit.int .i64 k).wf = true) ∧ TabDat T d := by
  obtain ⟨fuel, hf⟩ := h
  obtain ⟨xs, n, _, hx, hlen, hxl, hg⟩ := DataW.trod_struct Try.underlying29 hf
  obtain ⟨x0, x1, x2, x3, x4, x5, rfl⟩ := six hxl
  have g0 : DataW.trod enc Try.prog w base (fun _ => true) held n 26 (((Value.agg cs).cells.toList.drop 0).take (Try.prog.cellsOf 26)) = some x0 := hg 0 _ rfl
  have g1 : DataW.trod enc Try.prog w base (fun _ => true) held n 24 (((Value.agg cs).cells.toList.drop 258).take (Try.prog.cellsOf 24)) = some x1 := hg 1 _ rfl
  have g2 : DataW.trod enc Try.prog w base (fun _ => true) held n 27 (((Value.agg cs).cells.toList.drop 259).take (Try.prog.cellsOf 27)) = some x2 := hg 2 _ rfl
  have g3 : DataW.trod enc Try.prog w base (fun _ => true) held n 23 (((Value.agg cs).cells.toList.drop 260).take (Try.prog.cellsOf 23)) = some x3 := hg 3 _ rfl
  have g4 : DataW.trod enc Try.prog w base (fun _ => true) held n 24 (((Value.agg cs).cells.toList.drop 261).take (Try.prog.cellsOf 24)) = some x4 := hg 4 _ rfl
  have g5 : DataW.trod enc Try.prog w base (fun _ => true) held n 24 (((Value.agg cs).cells.toList.drop 262).take (Try.prog.cellsOf 24)) = some x5 := hg 5 _ rfl
  rw [cells26] at g0
  rw [cells24] at g1 g4 g5
  rw [cells27] at g2
  rw [cells23] at g3
  obtain ⟨ys, m, _, hy, hlen2, hyl, hk⟩ := DataW.trod_struct Try.underlying26 g0
  obtain ⟨y0, y1, y2, rfl⟩ := three hyl
  have k0 : DataW.trod enc Try.prog w base (fun _ => true) held m 22 (((((Value.agg cs).cells.toList.drop 0).take 258).drop 0).take (Try.prog.cellsOf 22)) = some y0 := hk 0 _ rfl
  have k1 : DataW.trod enc Try.prog w base (fun _ => true) held m 23 (((((Value.agg cs).cells.toList.drop 0).take 258).drop 256).take (Try.prog.cellsOf 23)) = some y1 := hk 1 _ rfl
  have k2 : DataW.trod enc Try.prog w base (fun _ => true) held m 24 (((((Value.agg cs).cells.toList.drop 0).take 258).drop 257).take (Try.prog.cellsOf 24)) = some y2 := hk 2 _ rfl
  rw [cells22] at k0
  rw [cells23] at k1
  rw [cells24] at k2
  obtain ⟨zs, m2, _, hz, hlen3, hzl, ha⟩ := DataW.trod_array Try.underlying22 k0
  obtain ⟨l1, A1, c1, e1, b1, m1, C1, R1⟩ := open_rowsL Try.underlying23 Try.underlying24 Try.underlying3 cells24 cells3 k1
  obtain ⟨l2, A2, c2, e2, b2, m2', C2, _, R2⟩ := open_row Try.underlying24 Try.underlying3 cells3 k2
  obtain ⟨l3, A3, c3, e3, b3, m3, C3, _, R3⟩ := open_row Try.underlying24 Try.underlying3 cells3 g1
  obtain ⟨l4, A4, c4, e4, b4, m4, C4, R4⟩ := open_actrows g2
  obtain ⟨l5, A5, c5, e5, b5, m5, C5, R5⟩ := open_rowsL Try.underlying23 Try.underlying24 Try.underlying3 cells24 cells3 g3
  obtain ⟨l6, A6, c6, e6, b6, m6, C6, _, R6⟩ := open_row Try.underlying24 Try.underlying3 cells3 g4
  obtain ⟨l7, A7, c7, e7, b7, m7, C7, _, R7⟩ := open_row Try.underlying24 Try.underlying3 cells3 g5
  obtain ⟨L, hL⟩ : ∃ L, L = (Value.agg cs).cells.toList := ⟨_, rfl⟩
  have hcs : cs.toList = L := hL.symm
  rw [← hL] at hlen hlen2 hlen3 ha e1 e2 e3 e4 e5 e6 e7
  rw [cells29] at hlen
  rw [cells22] at hlen3
  simp only [List.drop_zero] at hlen2 hlen3 ha e1 e2
  obtain ⟨M, hM⟩ : ∃ M, M = L.take 258 := ⟨_, rfl⟩
  rw [← hM] at hlen2 hlen3 ha e1 e2
  rw [cells26] at hlen2
  obtain ⟨cl, hcl, hcw⟩ := list_ints (M.take 256) (fun i hi => by
    have h1 := ha i (by rw [hlen3] at hi; exact hi)
    rw [cells3, Nat.mul_one] at h1
    have hz1 : i < zs.length := by rw [hzl]; rw [hlen3] at hi; exact hi
    rw [List.getElem?_eq_getElem hz1] at h1
    obtain ⟨z, hz2, _, hz3⟩ := DataW.trod_int Try.underlying3 h1
    refine ⟨z, ?_, hz3⟩
    have h2 : ((M.take 256).drop i)[0]? = some (.int .i64 z) := by
      have := congrArg (fun l => l[0]?) hz2
      try dsimp only at this
      rw [List.getElem?_take_of_lt (by decide)] at this
      exact this
    rw [List.getElem?_drop, Nat.add_zero] at h2
    exact h2)
  have hcl2 : cl.length = 256 := by
    have := congrArg List.length hcl
    rw [List.length_map] at this
    omega
  have hMM : M = M.take 256 ++ M.drop 256 := (List.take_append_drop 256 M).symm
  rw [drop_one e1, drop_one e2, List.drop_eq_nil_of_le (by omega)] at hMM
  have hLL : L = L.take 258 ++ L.drop 258 := (List.take_append_drop 258 L).symm
  rw [drop_one e3, drop_one e4, drop_one e5, drop_one e6, drop_one e7, List.drop_eq_nil_of_le (by omega), ← hM] at hLL
  refine ⟨⟨cl, l1, l2, l3, l4, l5, l6, l7⟩, ⟨A1, c1, A2, c2, A3, c3, A4, c4, A5, c5, A6, c6, A7, c7⟩, ?_, ⟨⟨hcl2, C1, b1, C2, b2⟩, C3, b3, C4, b4, C5, b5, C6, b6, C7, b7⟩, hcw, ?_⟩
  · rw [tcells_eq]
    have h3 : cs.toList = _ := hcs.trans hLL
    rw [hMM, hcl] at h3
    rw [← Array.toArray_toList (xs := cs), h3]
    congr 1
    rw [List.append_assoc]
    rfl
  refine ⟨y0.1, y1.1, y2.1, x1.1, x2.1, x3.1, x4.1, x5.1, ?_, R1, R2, R3, R4, R5, R6, R7⟩
  have hx1 := (Prod.mk.inj hx).1
  have hy1 : x0.1 = _ := congrArg (·.1) hy
  rw [hx1]
  show DataW.agg [x0.1, x1.1, x2.1, x3.1, x4.1, x5.1] = _
  rw [hy1]
  rfl
theorem bytes3 : Try.prog.bytesOf 3 = 8 := by kernel_rfl
theorem bytes24 : Try.prog.bytesOf 24 = 24 := by kernel_rfl
theorem bytes38 : Try.prog.bytesOf 38 = 16 := by kernel_rfl
theorem bytes39 : Try.prog.bytesOf 39 = 24 := by kernel_rfl
section
variable {ts : List TypeId} {ds : List (DataW H)} {j : Nat} {d : DataW H}
theorem sized_row {l : List Int} (hsz : (DataW.weightsEach Try.prog ts ds).all (· ≤ reachBytes) = true) (hts : ts[j]? = some 24) (hds : ds[j]? = some d) (h : RowDat .i64 l d) : l.length * 8 ≤ 140737488351232 := by
  rcases h with ⟨rfl, rfl⟩ | ⟨s, rfl⟩
  · simp
  have h1 := sized_slice hsz hts hds Try.underlying24
  rw [bytes3, lits_length] at h1
  have h2 : reachBytes = 140737488351232 := rfl
  omega
theorem sized_lens {l : List (List S38)} (hsz : (DataW.weightsEach Try.prog ts ds).all (· ≤ reachBytes) = true) (hts : ts[j]? = some 27) (hds : ds[j]? = some d) (h : LensDat l d) : l.length * 24 ≤ 140737488351232 ∧ ∀ r ∈ l, r.length * 16 ≤ 140737488351232 := by
  have h2 : reachBytes = 140737488351232 := rfl
  rcases h with ⟨rfl, rfl⟩ | ⟨els, sp, rfl, hl, hj⟩
  · exact ⟨by simp, fun r hr => by cases hr⟩
  refine ⟨?_, fun r hr => ?_⟩
  · have h1 := sized_slice hsz hts hds Try.underlying27
    rw [bytes39] at h1
    omega
  obtain ⟨i, hi⟩ := List.mem_iff_getElem?.1 hr
  obtain ⟨z, hz, hd⟩ := hj i r hi
  rcases hd with ⟨rfl, rfl⟩ | ⟨es, s, rfl, hes⟩
  · simp
  have hm : (DataW.slice es s) ∈ els := List.mem_of_getElem? hz
  have h3 := List.all_eq_true.1 hsz _ (DataW.weights_mem_each hts hds ((es.length + s.length) * Try.prog.bytesOf 38) (by
    simp only [DataW.weights, Try.underlying27, List.mem_cons, List.mem_append]
    refine .inr (.inl (weightsAll_mem ?_ hm))
    simp [DataW.weights, Try.underlying39]))
  have h4 : (es.length + s.length) * Try.prog.bytesOf 38 ≤ reachBytes := by simpa using h3
  rw [bytes38] at h4
  omega
theorem sized_tables {T : Tab} (hsz : (DataW.weightsEach Try.prog ts ds).all (· ≤ reachBytes) = true) (hts : ts[j]? = some 29) (hds : ds[j]? = some d) (h : TabDat T d) (hc : T.cls.length = 256) (hw : ∀ k ∈ T.cls, (Lit.int .i64 k).wf = true) : TSmall T := by
  obtain ⟨dc, dn, dr, dt, da, dg, dl, ds_, rfl, R1, R2, R3, R4, R5, R6, R7⟩ := h
  have s1 : (DataW.weightsEach Try.prog [26, 24, 27, 23, 24, 24] [.agg [dc, dn, dr], dt, da, dg, dl, ds_]).all (· ≤ reachBytes) = true :=
    List.all_eq_true.2 (fun n hn => List.all_eq_true.1 hsz n (DataW.weights_mem_each hts hds n (by
      rw [DataW.weights, Try.underlying29]
      exact hn)))
  have s2 : (DataW.weightsEach Try.prog [22, 23, 24] [dc, dn, dr]).all (· ≤ reachBytes) = true :=
    List.all_eq_true.2 (fun n hn => List.all_eq_true.1 s1 n (DataW.weights_mem_each (j := 0) rfl rfl n (by
      rw [DataW.weights, Try.underlying26]
      exact hn)))
  have h1 := sized_rows s2 (j := 1) rfl rfl Try.underlying23 Try.underlying24 bytes24 bytes3 R1
  have h2 := sized_row s2 (j := 2) rfl rfl R2
  have h3 := sized_row s1 (j := 1) rfl rfl R3
  have h4 := sized_lens s1 (j := 2) rfl rfl R4
  have h5 := sized_rows s1 (j := 3) rfl rfl Try.underlying23 Try.underlying24 bytes24 bytes3 R5
  have h6 := sized_row s1 (j := 4) rfl rfl R6
  have h7 := sized_row s1 (j := 5) rfl rfl R7
  exact ⟨hc, hw, by omega, fun r hr => by have := h1.2 r hr; omega, by omega, by omega, by omega, fun r hr => by have := h4.2 r hr; omega, by omega, fun r hr => by have := h5.2 r hr; omega, by omega, by omega⟩
end
end Go.Proofs.Ytkeekganabafbaa.X
end
section
namespace Go.Proofs.Ytkeekganabafbaa.X
open Go.RowKit Go.Proofs.YtkeekganabafbaaW.PrintWords Go.Proofs.YtkeekganabafbaaW.PrintLast Go.Proofs.YtkeekganabafbaaW.PrintMore Go.Proofs.Ytkeekganabafbaa.Pure
attribute [local go_sem] max2_int min2_int max_two min_two max_three min_three max_four min_four
set_option linter.unusedVariables false
set_option linter.unusedSimpArgs false
theorem bytes_inj {X Y : Tab} (hX : X.cls.length = 256) (hY : Y.cls.length = 256) {b : List Int} (h1 : bytesI X = (b, 0)) (h2 : bytesI Y = (b, 0)) : X = Y := by
  have e1 := (parse_bytes X hX b h1).1
  have e2 := (parse_bytes Y hY b h2).1
  rw [e1] at e2
  exact (Prod.mk.inj e2).1
theorem bytes_len {X : Tab} {b : List Int} {e : Int} (h : bytesI X = (b, e)) : b.length ≤ 1000000 := by
  unfold bytesI at h
  split at h
  · unfold packI at h
    split at h
    · split at h
      · split at h
        · have h1 := (Prod.mk.inj h).1
          rw [← h1, sealI_length, packB_length]
          omega
        rw [← (Prod.mk.inj h).1]; simp
      rw [← (Prod.mk.inj h).1]; simp
    rw [← (Prod.mk.inj h).1]; simp
  rw [← (Prod.mk.inj h).1]; simp
set_option maxHeartbeats 16000000 in
set_option maxRecDepth 100000 in
theorem TablesSame_calls (X Y : Tab) (px py : TL) (w : World) (hX : TabR w X px) (hY : TabR w Y py) (sX : TSmall X) (sY : TSmall Y) :
    Calls Try.prog 3 #[.agg (tcells X px).toArray, .agg (tcells Y py).toArray] w fun e w' => e = .returned (.bool true) ∧ Below w.heap.size w w' := by
  have HX := Aside0.mk hX
  have HY := Aside0.mk hY
  have SX := Aside0.mk sX
  have SY := Aside0.mk sY
  have CX := Aside0.mk hX.cls
  have CY := Aside0.mk hY.cls
  obtain ⟨bx, ex, hbx_⟩ : ∃ b e, bytesI X = (b, e) := ⟨_, _, rfl⟩
  obtain ⟨by_, ey, hby_⟩ : ∃ b e, bytesI Y = (b, e) := ⟨_, _, rfl⟩
  have HBX := Aside0.mk hbx_
  have HBY := Aside0.mk hby_
  have LX := Aside0.mk (bytes_len hbx_)
  have LY := Aside0.mk (bytes_len hby_)
  clear hbx_ hby_ hX hY sX sY
  obtain ⟨r, hr_⟩ : ∃ r : Bool, (r = true ↔ X = Y) := by
    rcases Classical.em (X = Y) with h | h
    · exact ⟨true, fun _ => h, fun _ => rfl⟩
    exact ⟨false, fun h' => (by cases h'), fun h' => absurd h' h⟩
  have HR := Aside0.mk hr_
  have HE := Aside0.mk (show ex = 0 → ey = 0 → decide (bx = by_) = r from fun h1 h2 => by
    subst h1
    subst h2
    cases r with
    | true =>
      have h3 := HR.out.1 rfl
      subst h3
      have := HBX.out.symm.trans HBY.out
      exact decide_eq_true (Prod.mk.inj this).1
    | false =>
      refine decide_eq_false (fun h3 => ?_)
      subst h3
      have := HR.out.2 (bytes_inj CX.out CY.out HBX.out HBY.out)
      cases this)
  clear hr_
  go_enter Try.func3, Try.ntmps3
  go_upto_region 4 with (first | ((with_reducible refine gate_dst (N := 2) rfl ?_); refine box_event ?hg (N := 2) ?hd (cs := (tcells X px).toArray) (t := 29) ?hr ?_; (case hd => rfl); (case hg => rfl); (case hr => first | (go_simp; done) | (go_simp; rfl)); intro gx hg w1 hbx1 hb1; clear hg) | ((with_reducible refine gate_dst (N := 3) rfl ?_); refine box_event ?hg (N := 3) ?hd (cs := (tcells Y py).toArray) (t := 29) ?hr ?_; (case hd => rfl); (case hg => rfl); (case hr => first | (go_simp; done) | (go_simp; rfl)); intro gy hg w2 hby2 hb2; clear hg) | (go_at_call 9; refine (works_calls _).mono ?_; rintro e' w3 ⟨rfl, hb3⟩) | ((with_reducible refine gate_dst (N := 13) rfl ?_); (try (refine gate_guard (by rfl) ?_; dsimp only)); refine wpList_load_mid rfl 29 (.tmp 2) rfl gx 0 rfl (tcells X px) _ (TBlk.rangeT (show TBlk _ gx X px 29 from blk_below (blk_below hbx1 hb2) hb3)) Try.underlying29 rfl (by rw [tcells_length CX.out]; exact size29) ?_) | (go_at_call 10; refine (Bytes_calls X px _ (HX.out.below (below_step (below_step hb1 hb2) hb3)) SX.out.n SX.out.u SX.out.t).mono ?_; rintro e' w4 ⟨v4, rfl, hR4, hb4⟩; rw [HBX.out] at hR4; simp only [HBX.out]; obtain ⟨A4, c4, rfl⟩ := Kd.R_slice hR4; have HC4 := Aside0.mk (Kd.R_reads' hR4); clear hR4))
  have HB4 := Aside0.mk (below_step (below_step (below_step hb1 hb2) hb3) hb4)
  have HTX4 : TBlk w4 gx X px 29 := blk_below (blk_below (blk_below hbx1 hb2) hb3) hb4
  have HTY4 : TBlk w4 gy Y py 29 := blk_below (blk_below hby2 hb3) hb4
  clear hb1 hb2 hb3 hb4 hbx1 hby2
  go_upto_region 5 with (first | ((with_reducible refine gate_dst (N := 18) rfl ?_); (try (refine gate_guard (by rfl) ?_; dsimp only)); refine wpList_load_mid rfl 29 (.tmp 3) rfl gy 0 rfl (tcells Y py) _ (TBlk.rangeT HTY4) Try.underlying29 rfl (by rw [tcells_length CY.out]; exact size29) ?_) | (go_at_call 10; refine (Bytes_calls Y py _ (HY.out.below HB4.out) SY.out.n SY.out.u SY.out.t).mono ?_; rintro e' w5 ⟨v5, rfl, hR5, hb5⟩; rw [HBY.out] at hR5; simp only [HBY.out]; obtain ⟨A5, c5, rfl⟩ := Kd.R_slice hR5; have HC5 := Aside0.mk (Kd.R_reads' hR5); clear hR5))
  have HB5 := Aside0.mk (below_step HB4.out hb5)
  have HTX5 := Aside0.mk (show TBlk w5 gx X px 29 from blk_below HTX4 hb5)
  have HTY5 := Aside0.mk (show TBlk w5 gy Y py 29 from blk_below HTY4 hb5)
  have HC45 := Aside0.mk (Kd.C_below HC4.out.2.2 hb5)
  clear hb5 HTX4 HTY4
  go_upto_region 6 with (first | ((with_reducible refine gate_dst (N := 22) rfl ?_); (try (refine gate_guard (by rfl) ?_; dsimp only)); refine wpList_load_mid rfl 29 (.tmp 2) rfl gx 0 rfl (tcells X px) _ (TBlk.rangeT HTX5.out) Try.underlying29 rfl (by rw [tcells_length CX.out]; exact size29) ?_) | ((with_reducible refine gate_dst (N := 23) rfl ?_); (try (refine gate_guard (by rfl) ?_; dsimp only)); refine wpList_load_mid rfl 29 (.tmp 3) rfl gy 0 rfl (tcells Y py) _ (TBlk.rangeT HTY5.out) Try.underlying29 rfl (by rw [tcells_length CY.out]; exact size29) ?_) | (go_at_call 11; refine (Same_calls X Y px py _ (HX.out.below HB5.out) (HY.out.below HB5.out) SX.out SY.out).mono ?_; rintro e' w6 ⟨r6, rfl, hr6, hb6⟩))
  obtain rfl : r6 = r := by rcases r6 with _ | _ <;> rcases r with _ | _ <;> first | rfl | (have := hr6.trans HR.out.symm; simp at this)
  have HB6 := Aside0.mk hb6
  have HTX6 := Aside0.mk (show TBlk w6 gx X px 29 from blk_below HTX5.out hb6)
  have HTY6 := Aside0.mk (show TBlk w6 gy Y py 29 from blk_below HTY5.out hb6)
  clear hr6 hb6
  have hrr : ∀ r8 : Bool, (r8 = true ↔ Y = X) → r8 = r6 := fun r8 h8 => by
    have h9 : r8 = true ↔ r6 = true := ⟨fun h => HR.out.2 (h8.1 h).symm, fun h => h8.2 (HR.out.1 h).symm⟩
    rcases r8 with _ | _ <;> rcases r6 with _ | _ <;> first | rfl | (simp at h9)
  have HRR := Aside0.mk hrr
  clear hrr
  by_cases he : ex = 0
  · subst he
    by_cases hf : ey = 0
    · subst hf
      have HE2 := Aside0.mk (HE.out rfl rfl)
      cases r6
      all_goals
        go_wp2_with (first | ((with_reducible refine gate_dst (N := 25) rfl ?_); (try (refine gate_guard (by rfl) ?_; dsimp only)); refine wpList_load_mid rfl 29 (.tmp 2) rfl gx 0 rfl (tcells X px) _ (TBlk.rangeT HTX6.out) Try.underlying29 rfl (by rw [tcells_length CX.out]; exact size29) ?_) | ((with_reducible refine gate_dst (N := 26) rfl ?_); (try (refine gate_guard (by rfl) ?_; dsimp only)); refine wpList_load_mid rfl 29 (.tmp 2) rfl gx 0 rfl (tcells X px) _ (TBlk.rangeT HTX6.out) Try.underlying29 rfl (by rw [tcells_length CX.out]; exact size29) ?_) | (have g_ := hb7; clear g_; go_at_call 11; refine (Same_calls Y X py px _ (HY.out.below (below_step (below_step HB5.out HB6.out) hb7)) (HX.out.below (below_step (below_step HB5.out HB6.out) hb7)) SY.out SX.out).mono ?_; rintro e' w8 ⟨r8, rfl, hr8, hb8⟩; rw [HRR.out r8 hr8]; clear hr8) | (go_at_call 11; refine (Same_calls X X px px _ (HX.out.below (below_step HB5.out HB6.out)) (HX.out.below (below_step HB5.out HB6.out)) SX.out SX.out).mono ?_; rintro e' w7 ⟨r7, rfl, hr7, hb7⟩; obtain rfl : r7 = true := hr7.2 rfl; clear hr7) | ((with_reducible refine gate_dst (N := 30) rfl ?_); (try (refine gate_guard (by rfl) ?_; dsimp only)); refine wpList_load_mid rfl 29 (.tmp 3) rfl gy 0 rfl (tcells Y py) _ (TBlk.rangeT (show TBlk _ gy Y py 29 from blk_below HTY6.out hb7)) Try.underlying29 rfl (by rw [tcells_length CY.out]; exact size29) ?_) | ((with_reducible refine gate_dst (N := 31) rfl ?_); (try (refine gate_guard (by rfl) ?_; dsimp only)); refine wpList_load_mid rfl 29 (.tmp 2) rfl gx 0 rfl (tcells X px) _ (TBlk.rangeT (show TBlk _ gx X px 29 from blk_below HTX6.out hb7)) Try.underlying29 rfl (by rw [tcells_length CX.out]; exact size29) ?_) | (go_at_call 12; refine (eqb_n bx by_ bx.length by_.length A4 A5 c4 c5 _ rfl rfl (by have := LX.out; omega) (Kd.C_below HC45.out (below_step (below_step HB6.out hb7) hb8)) HC4.out.2.1 (Kd.C_below HC5.out.2.2 (below_step (below_step HB6.out hb7) hb8)) HC5.out.2.1).mono ?_; rintro e' w9 ⟨he9, hb9⟩; rw [HE2.out] at he9; subst he9))
        go_ret
        exact ⟨rfl, below_step (below_step (below_step (below_step HB5.out HB6.out) hb7) hb8) hb9⟩
    have f1 : (ey = 0) = False := eq_false hf
    have f2 : decide (ey = 0) = false := decide_eq_false hf
    have f3 : (ey == 0) = false := beq_eq_false_iff_ne.mpr hf
    cases r6
    all_goals
      go_wp2_with (first | ((with_reducible refine gate_dst (N := 25) rfl ?_); (try (refine gate_guard (by rfl) ?_; dsimp only)); refine wpList_load_mid rfl 29 (.tmp 2) rfl gx 0 rfl (tcells X px) _ (TBlk.rangeT HTX6.out) Try.underlying29 rfl (by rw [tcells_length CX.out]; exact size29) ?_) | ((with_reducible refine gate_dst (N := 26) rfl ?_); (try (refine gate_guard (by rfl) ?_; dsimp only)); refine wpList_load_mid rfl 29 (.tmp 2) rfl gx 0 rfl (tcells X px) _ (TBlk.rangeT HTX6.out) Try.underlying29 rfl (by rw [tcells_length CX.out]; exact size29) ?_) | (have g_ := hb7; clear g_; go_at_call 11; refine (Same_calls Y X py px _ (HY.out.below (below_step (below_step HB5.out HB6.out) hb7)) (HX.out.below (below_step (below_step HB5.out HB6.out) hb7)) SY.out SX.out).mono ?_; rintro e' w8 ⟨r8, rfl, hr8, hb8⟩; rw [HRR.out r8 hr8]; clear hr8) | (go_at_call 11; refine (Same_calls X X px px _ (HX.out.below (below_step HB5.out HB6.out)) (HX.out.below (below_step HB5.out HB6.out)) SX.out SX.out).mono ?_; rintro e' w7 ⟨r7, rfl, hr7, hb7⟩; obtain rfl : r7 = true := hr7.2 rfl; clear hr7) | ((with_reducible refine gate_dst (N := 30) rfl ?_); (try (refine gate_guard (by rfl) ?_; dsimp only)); refine wpList_load_mid rfl 29 (.tmp 3) rfl gy 0 rfl (tcells Y py) _ (TBlk.rangeT (show TBlk _ gy Y py 29 from blk_below HTY6.out hb7)) Try.underlying29 rfl (by rw [tcells_length CY.out]; exact size29) ?_) | ((with_reducible refine gate_dst (N := 31) rfl ?_); (try (refine gate_guard (by rfl) ?_; dsimp only)); refine wpList_load_mid rfl 29 (.tmp 2) rfl gx 0 rfl (tcells X px) _ (TBlk.rangeT (show TBlk _ gx X px 29 from blk_below HTX6.out hb7)) Try.underlying29 rfl (by rw [tcells_length CX.out]; exact size29) ?_) | (go_at_call 12; refine (eqb_n bx by_ bx.length by_.length A4 A5 c4 c5 _ rfl rfl (by have := LX.out; omega) (Kd.C_below HC45.out (below_step (below_step HB6.out hb7) hb8)) HC4.out.2.1 (Kd.C_below HC5.out.2.2 (below_step (below_step HB6.out hb7) hb8)) HC5.out.2.1).mono ?_; rintro e' w9 ⟨he9, hb9⟩; rw [HE2.out] at he9; subst he9))
      go_ret
      exact ⟨rfl, below_step (below_step (below_step HB5.out HB6.out) hb7) hb8⟩
  have f1 : (ex = 0) = False := eq_false he
  have f2 : decide (ex = 0) = false := decide_eq_false he
  have f3 : (ex == 0) = false := beq_eq_false_iff_ne.mpr he
  cases r6
  all_goals
    go_wp2_with (first | ((with_reducible refine gate_dst (N := 25) rfl ?_); (try (refine gate_guard (by rfl) ?_; dsimp only)); refine wpList_load_mid rfl 29 (.tmp 2) rfl gx 0 rfl (tcells X px) _ (TBlk.rangeT HTX6.out) Try.underlying29 rfl (by rw [tcells_length CX.out]; exact size29) ?_) | ((with_reducible refine gate_dst (N := 26) rfl ?_); (try (refine gate_guard (by rfl) ?_; dsimp only)); refine wpList_load_mid rfl 29 (.tmp 2) rfl gx 0 rfl (tcells X px) _ (TBlk.rangeT HTX6.out) Try.underlying29 rfl (by rw [tcells_length CX.out]; exact size29) ?_) | (have g_ := hb7; clear g_; go_at_call 11; refine (Same_calls Y X py px _ (HY.out.below (below_step (below_step HB5.out HB6.out) hb7)) (HX.out.below (below_step (below_step HB5.out HB6.out) hb7)) SY.out SX.out).mono ?_; rintro e' w8 ⟨r8, rfl, hr8, hb8⟩; rw [HRR.out r8 hr8]; clear hr8) | (go_at_call 11; refine (Same_calls X X px px _ (HX.out.below (below_step HB5.out HB6.out)) (HX.out.below (below_step HB5.out HB6.out)) SX.out SX.out).mono ?_; rintro e' w7 ⟨r7, rfl, hr7, hb7⟩; obtain rfl : r7 = true := hr7.2 rfl; clear hr7) | ((with_reducible refine gate_dst (N := 30) rfl ?_); (try (refine gate_guard (by rfl) ?_; dsimp only)); refine wpList_load_mid rfl 29 (.tmp 3) rfl gy 0 rfl (tcells Y py) _ (TBlk.rangeT (show TBlk _ gy Y py 29 from blk_below HTY6.out hb7)) Try.underlying29 rfl (by rw [tcells_length CY.out]; exact size29) ?_) | ((with_reducible refine gate_dst (N := 31) rfl ?_); (try (refine gate_guard (by rfl) ?_; dsimp only)); refine wpList_load_mid rfl 29 (.tmp 2) rfl gx 0 rfl (tcells X px) _ (TBlk.rangeT (show TBlk _ gx X px 29 from blk_below HTX6.out hb7)) Try.underlying29 rfl (by rw [tcells_length CX.out]; exact size29) ?_) | (go_at_call 12; refine (eqb_n bx by_ bx.length by_.length A4 A5 c4 c5 _ rfl rfl (by have := LX.out; omega) (Kd.C_below HC45.out (below_step (below_step HB6.out hb7) hb8)) HC4.out.2.1 (Kd.C_below HC5.out.2.2 (below_step (below_step HB6.out hb7) hb8)) HC5.out.2.1).mono ?_; rintro e' w9 ⟨he9, hb9⟩; rw [HE2.out] at he9; subst he9))
    go_ret
    exact ⟨rfl, below_step (below_step (below_step HB5.out HB6.out) hb7) hb8⟩
def incunablelaw22_TablesSame.f (k : Nat) (t0 t1 : Tab) : Option Bool := some true
theorem incunablelaw22_TablesSame.calls (k : Nat) (pl0 : TL) (t0 : Tab) (pl1 : TL) (t1 : Tab) (r : Bool) (w : World) (hr0 : TabR w t0 pl0 ∧ TSmall t0) (hr1 : TabR w t1 pl1 ∧ TSmall t1) (h : incunablelaw22_TablesSame.f k t0 t1 = some r) :
    Calls Try.prog 3 #[.agg (tcells t0 pl0).toArray, .agg (tcells t1 pl1).toArray] w fun e w' => e = .returned (.bool r) ∧ Below w.heap.size w w' := by
  injection h with h
  subst h
  exact TablesSame_calls t0 t1 pl0 pl1 w hr0.1 hr1.1 hr0.2 hr1.2
end Go.Proofs.Ytkeekganabafbaa.X
end
section
namespace Go.Proofs.Ytkeekganabafbaa.X
open Go.RowKit Go.Proofs.YtkeekganabafbaaW.PrintWords Go.Proofs.YtkeekganabafbaaW.PrintLast Go.Proofs.YtkeekganabafbaaW.PrintMore
attribute [local go_sem] max2_int min2_int max_two min_two max_three min_three max_four min_four
set_option linter.unusedVariables false
set_option linter.unusedSimpArgs false
theorem eqi_loop (x : List Int) (hl : x.length ≤ 9223372036854775806) : ∀ n i : Nat, i + n = x.length → incunableref00_EqInts.l0 (n + 1) x x (i : Int) = some true := by
  intro n
  induction n with
  | zero =>
    intro i hi
    unfold incunableref00_EqInts.l0
    rw [if_neg (by omega)]
  | succ n ih =>
    intro i hi
    unfold incunableref00_EqInts.l0
    rw [if_pos (by omega), if_pos (by omega), if_pos (by omega), if_pos rfl, show wrap64 ((i : Int) + 1) = ((i + 1 : Nat) : Int) from by unfold wrap64; omega]
    exact ih (i + 1) (by omega)
theorem eqi_n (x : List Int) (A B : Option Addr) (n c d : Nat) (w : World) (hn : x.length = n) (hC : Kd.C (Kd.int .i64) w A n x) (hc : n ≤ c) (hD : Kd.C (Kd.int .i64) w B n x) (hd : n ≤ d) (hl : n ≤ 9223372036854775806) :
    Calls Try.prog 44 #[.slice A n c, .slice B n d] w fun e w' => e = .returned (.bool true) ∧ Below w.heap.size w w' := by
  subst hn
  refine (incunableref00_EqInts.calls (x.length + 1) A c x B d x true w hC hc hD hd (by unfold incunableref00_EqInts.f; rw [if_pos rfl]; exact eqi_loop x hl x.length 0 (by omega))).mono ?_
  rintro e w' ⟨rfl, h⟩
  exact ⟨rfl, h.below⟩
set_option maxHeartbeats 16000000 in
set_option maxRecDepth 100000 in
theorem rSame11_calls (X : Tab) (px py : TL) (w : World) (hX : DabR w X px) (hY : DabR w X py) (sX : TSmall X) :
    Calls Try.prog 43 #[.agg (dcells X px).toArray, .agg (dcells X py).toArray] w fun e w' => e = .returned (.bool true) ∧ Below w.heap.size w w' := by
  have HTX := Aside0.mk hX
  have HTY := Aside0.mk hY
  have SX := Aside0.mk sX
  have HCX := Aside0.mk hX.cls
  clear hX hY sX
  go_enter Try.func43, Try.ntmps43
  try dsimp only [List.append]
  go_upto_region 1 with (first | ((with_reducible refine gate_dst (N := 2) rfl ?_); refine box_event ?hg (N := 2) ?hd (cs := (dcells X px).toArray) (t := 26) ?hr ?_; (case hd => rfl); (case hg => rfl); (case hr => first | (go_simp; done) | (go_simp; rfl)); intro gx hg_ w1 hbx_ hb_w1; clear hg_; have hgx : DBlk w1 gx X px 26 := hbx_; clear hbx_) | ((with_reducible refine gate_dst (N := 3) rfl ?_); refine box_event ?hg (N := 3) ?hd (cs := (dcells X py).toArray) (t := 26) ?hr ?_; (case hd => rfl); (case hg => rfl); (case hr => first | (go_simp; done) | (go_simp; rfl)); intro gy hg_ w2 hbx_ hb_w2; clear hg_; have hgy : DBlk w2 gy X py 26 := hbx_; clear hbx_))
  have hbX : DBlk w2 gx X px 26 := blk_below hgx hb_w2
  have hbY : DBlk w2 gy X py 26 := hgy
  have HB2 := Aside0.mk (below_step hb_w1 hb_w2)
  clear hgx hgy hb_w1 hb_w2
  obtain ⟨rc, hrc, hrci⟩ := cls_eq X.cls X.cls HCX.out HCX.out SX.out.wf SX.out.wf w2
  cases (show rc = true from hrci.2 rfl)
  have hce : (Op.equalIn 10000 22 (.agg (ccells X).toArray) (.agg (ccells X).toArray)).run Try.prog w2 = .ok true w2 := hrc
  have hgd : Try.prog.eqGuardType Try.prog.depth 22 = false := by kernel_rfl
  have kX := (DBlk.tail hbX HCX.out 0).trans (show _ = some (Value.slice px.a1 X.next.length px.c1) from rfl)
  have kY := (DBlk.tail hbY HCX.out 0).trans (show _ = some (Value.slice py.a1 X.next.length py.c1) from rfl)
  have jX := (DBlk.tail hbX HCX.out 1).trans (show _ = some (Value.slice px.a2 X.rule.length px.c2) from rfl)
  have jY := (DBlk.tail hbY HCX.out 1).trans (show _ = some (Value.slice py.a2 X.rule.length py.c2) from rfl)
  clear hrc hrci
  go_upto_region 3 with (first | ((with_reducible refine gate_dst (N := 7) rfl ?_); refine wpList_load_mid rfl 22 (.tmp 6) rfl gx 0 rfl (ccells X) _ (DBlk.rangeC hbX HCX.out) Try.underlying22 rfl (by rw [ccells_length, HCX.out]; exact size22) ?_) | ((with_reducible refine gate_dst (N := 9) rfl ?_); refine wpList_load_mid rfl 22 (.tmp 8) rfl gy 0 rfl (ccells X) _ (DBlk.rangeC hbY HCX.out) Try.underlying22 rfl (by rw [ccells_length, HCX.out]; exact size22) ?_) | (go_at_call 44; have TX := HTX.out.below HB2.out; have TY := HTY.out.below HB2.out; refine (eqi_n X.rule px.a2 py.a2 X.rule.length px.c2 py.c2 _ rfl TX.r2 TX.l2 TY.r2 TY.l2 SX.out.u).mono ?_; rintro e w3 ⟨rfl, hb3⟩; clear TX TY))
  have HBX := Aside0.mk (blk_below hbX hb3 : DBlk w3 gx X px 26)
  have HBY := Aside0.mk (blk_below hbY hb3 : DBlk w3 gy X py 26)
  have HB3 := Aside0.mk (below_step HB2.out hb3)
  clear hbX hbY hb3 kX kY jX jY hce
  go_wp2
  go_loopg [5] (X.next.length + 1) (fun kq v5 w' => ∃ i : Int, v5 = .int .i64 i ∧ Aside0 (0 ≤ i) ∧ Aside0 (i ≤ (X.next.length : Int)) ∧ Aside0 ((kq : Int) + i = (X.next.length : Int) + 1) ∧ Aside0 (Below w3.heap.size w3 w'))
  case atStart => exact ⟨0, rfl, ⟨by decide⟩, ⟨by omega⟩, ⟨by omega⟩, ⟨Below.refl _ _⟩⟩
  obtain ⟨i, rfl, hi0, hi1, hk, hB⟩ := hrel
  have hkk := hk.out
  have hBr := Aside0.mk (below_step HB3.out hB.out)
  by_cases hlt : i < (X.next.length : Int)
  · have l1 : decide (i < (X.next.length : Int)) = true := decide_eq_true hlt
    have HLT := Aside0.mk hlt
    have hwi : IntKind.i64.wrap (i + 1) = i + 1 := by have := hi0.out; have := SX.out.n; simp only [i64_w]; unfold wrap64; omega
    have p1 := eq_true hi0.out
    have q1 := eq_true hlt
    obtain ⟨ad, A1, c1, ea, hx, hl1, hC1⟩ := at_L4 (HTX.out.below hBr.out).r1 i hi0.out hlt
    obtain ⟨bd, B1, d1, eb, hy, hl2, hD1⟩ := at_L4 (HTY.out.below hBr.out).r1 i hi0.out hlt
    have kX := (DBlk.tail (blk_below HBX.out hB.out) HCX.out 0).trans (show _ = some (Value.slice (some ad) X.next.length px.c1) from by rw [← ea]; rfl)
    have kY := (DBlk.tail (blk_below HBY.out hB.out) HCX.out 0).trans (show _ = some (Value.slice (some bd) X.next.length py.c1) from by rw [← eb]; rfl)
    have HRL := Aside0.mk (show (rd_L4 X.next i).length ≤ 9223372036854775806 from SX.out.nr _ (by have := drop_at X.next ([] : List Int) i hi0.out hlt; exact List.mem_of_mem_drop (i := i.toNat) (by rw [this]; exact List.mem_cons_self)))
    generalize rd_L4 X.next i = r1 at hx hl1 hC1 HRL hy hl2 hD1
    have HC1 := Aside0.mk hC1
    have HD1 := Aside0.mk hD1
    have H1 := Aside0.mk hl1
    have H2 := Aside0.mk hl2
    clear hC1 hD1 hl1 hl2 hlt
    go_upto_region 6 with (fail)
    refine start_ (n := 12) (S := fun w' => w'.cell? ⟨gx, 256, none⟩ = some (.slice (some ad) X.next.length px.c1) ∧ w'.cell? ⟨gy, 256, none⟩ = some (.slice (some bd) X.next.length py.c1) ∧ w'.cell? (ad.add i.toNat) = some (.slice A1 r1.length c1) ∧ w'.cell? (bd.add i.toNat) = some (.slice B1 r1.length d1)) (ds := []) #[false, false, false, false, false, false, false, false, false, false, false, false] (by kernel_rfl) rfl rfl ⟨kX, kY, hx, hy⟩ (fun hHeld => ?_)
    generalize HW : wr.drew = w5 at hHeld ⊢
    have hb5 : Below wr.heap.size wr w5 := by rw [← HW]; exact below_drew (Below.refl _ _)
    clear HW kX kY hx hy
    refine pure_ (i := 0) (N := some 35) (v := ?_) (a' := ?_) #[true, false, false, false, false, false, false, false, false, false, false, false] rfl rfl (by kernel_rfl) (fun _ _ _ h => h) (Or.inl ⟨by rfl, ?_⟩) ?_ ?_
    rotate_left
    · intro w'
      go_simp
      with_reducible rfl
    rotate_left
    · simp only [Act.put, List.setIfInBounds_toArray, List.set_cons_zero, List.set_cons_succ, i64_w, i32_w]
      rfl
    refine pure_ (i := 2) (N := some 37) (v := ?_) (a' := ?_) #[true, false, true, false, false, false, false, false, false, false, false, false] rfl rfl (by kernel_rfl) (fun _ _ _ h => h) (Or.inl ⟨by rfl, ?_⟩) ?_ ?_
    rotate_left
    · intro w'
      go_simp
      with_reducible rfl
    rotate_left
    · simp only [Act.put, List.setIfInBounds_toArray, List.set_cons_zero, List.set_cons_succ, i64_w, i32_w]
      rfl
    refine pure_ (i := 5) (N := some 40) (v := ?_) (a' := ?_) #[true, false, true, false, false, true, false, false, false, false, false, false] rfl rfl (by kernel_rfl) (fun _ _ _ h => h) (Or.inl ⟨by rfl, ?_⟩) ?_ ?_
    rotate_left
    · intro w'
      go_simp
      with_reducible rfl
    rotate_left
    · simp only [Act.put, List.setIfInBounds_toArray, List.set_cons_zero, List.set_cons_succ, i64_w, i32_w]
      rfl
    refine pure_ (i := 7) (N := some 42) (v := ?_) (a' := ?_) #[true, false, true, false, false, true, false, true, false, false, false, false] rfl rfl (by kernel_rfl) (fun _ _ _ h => h) (Or.inl ⟨by rfl, ?_⟩) ?_ ?_
    rotate_left
    · intro w'
      go_simp
      with_reducible rfl
    rotate_left
    · simp only [Act.put, List.setIfInBounds_toArray, List.set_cons_zero, List.set_cons_succ, i64_w, i32_w]
      rfl
    refine take_ (i := 1) (N := some 36) (v := ?_) (a' := ?_) #[true, true, true, false, false, true, false, true, false, false, false, false] rfl rfl (by kernel_rfl) (fun _ _ _ h => h) (Or.inl ⟨by rfl, ?_⟩) hHeld ?_ ?_
    rotate_left
    · rintro w' ⟨s0, s1, s2, s3⟩
      go_simp
      with_reducible rfl
    rotate_left
    · simp only [Act.put, List.setIfInBounds_toArray, List.set_cons_zero, List.set_cons_succ, i64_w, i32_w]
      rfl
    refine pure_ (i := 3) (N := some 38) (v := ?_) (a' := ?_) #[true, true, true, true, false, true, false, true, false, false, false, false] rfl rfl (by kernel_rfl) (fun _ _ _ h => h) (Or.inl ⟨by rfl, ?_⟩) ?_ ?_
    rotate_left
    · intro w'
      go_simp
      with_reducible rfl
    rotate_left
    · simp only [Act.put, List.setIfInBounds_toArray, List.set_cons_zero, List.set_cons_succ, i64_w, i32_w]
      rfl
    refine take_ (i := 4) (N := some 39) (v := ?_) (a' := ?_) #[true, true, true, true, true, true, false, true, false, false, false, false] rfl rfl (by kernel_rfl) (fun _ _ _ h => h) (Or.inl ⟨by rfl, ?_⟩) hHeld ?_ ?_
    rotate_left
    · rintro w' ⟨s0, s1, s2, s3⟩
      go_simp
      with_reducible rfl
    rotate_left
    · simp only [Act.put, List.setIfInBounds_toArray, List.set_cons_zero, List.set_cons_succ, i64_w, i32_w]
      rfl
    refine take_ (i := 6) (N := some 41) (v := ?_) (a' := ?_) #[true, true, true, true, true, true, true, true, false, false, false, false] rfl rfl (by kernel_rfl) (fun _ _ _ h => h) (Or.inl ⟨by rfl, ?_⟩) hHeld ?_ ?_
    rotate_left
    · rintro w' ⟨s0, s1, s2, s3⟩
      go_simp
      with_reducible rfl
    rotate_left
    · simp only [Act.put, List.setIfInBounds_toArray, List.set_cons_zero, List.set_cons_succ, i64_w, i32_w]
      rfl
    refine pure_ (i := 8) (N := some 43) (v := ?_) (a' := ?_) #[true, true, true, true, true, true, true, true, true, false, false, false] rfl rfl (by kernel_rfl) (fun _ _ _ h => h) (Or.inl ⟨by rfl, ?_⟩) ?_ ?_
    rotate_left
    · intro w'
      go_simp
      with_reducible rfl
    rotate_left
    · simp only [Act.put, List.setIfInBounds_toArray, List.set_cons_zero, List.set_cons_succ, i64_w, i32_w]
      rfl
    refine take_ (i := 9) (N := some 44) (v := ?_) (a' := ?_) #[true, true, true, true, true, true, true, true, true, true, false, false] rfl rfl (by kernel_rfl) (fun _ _ _ h => h) (Or.inl ⟨by rfl, ?_⟩) hHeld ?_ ?_
    rotate_left
    · rintro w' ⟨s0, s1, s2, s3⟩
      go_simp
      with_reducible rfl
    rotate_left
    · simp only [Act.put, List.setIfInBounds_toArray, List.set_cons_zero, List.set_cons_succ, i64_w, i32_w]
      rfl
    refine one_ (i := 10) (N := some 45) #[true, true, true, true, true, true, true, true, true, true, true, false] rfl rfl (by kernel_rfl) (by decide) (fun K hK => ?_)
    refine goes_ Try.func44 (by kernel_rfl) rfl #[.slice A1 r1.length c1, .slice B1 r1.length d1] (by rfl) rfl rfl (by simp only [List.map_toArray, List.map_cons, List.map_nil]; rfl) ?_
    with_reducible refine (eqi_n r1 A1 B1 r1.length c1 d1 w5 rfl (Kd.C_below HC1.out hb5) H1.out (Kd.C_below HD1.out hb5) H2.out HRL.out).mono ?_
    rintro e w7 ⟨rfl, hb7⟩
    refine ⟨_, rfl, ?_⟩
    refine hK.out _ _ ⟨((hb7.cell (World.block_lt_of_cell? w5 _ hHeld.1)).trans hHeld.1), ((hb7.cell (World.block_lt_of_cell? w5 _ hHeld.2.1)).trans hHeld.2.1), ((hb7.cell (World.block_lt_of_cell? w5 _ hHeld.2.2.1)).trans hHeld.2.2.1), ((hb7.cell (World.block_lt_of_cell? w5 _ hHeld.2.2.2)).trans hHeld.2.2.2)⟩ (fun hHeld => ?_)
    clear hK K
    refine norm_ (a' := ?_) ?_ ?_
    rotate_left
    · show Act.put _ (some 45) _ = _
      simp only [Act.put, List.setIfInBounds_toArray, List.set_cons_zero, List.set_cons_succ, i64_w, i32_w]
      rfl
    refine pure_ (i := 11) (N := some 46) (v := ?_) (a' := ?_) #[true, true, true, true, true, true, true, true, true, true, true, true] rfl rfl (by kernel_rfl) (fun _ _ _ h => h) (Or.inl ⟨by rfl, ?_⟩) ?_ ?_
    rotate_left
    · intro w'
      go_simp
      with_reducible rfl
    rotate_left
    · simp only [Act.put, List.setIfInBounds_toArray, List.set_cons_zero, List.set_cons_succ, i64_w, i32_w]
      rfl
    refine done_ (by kernel_rfl) ?_
    clear hHeld
    go_wp2_with (fail)
    go_roundg (gk - 1)
    case measure => have := HLT.out; have := hi0.out; omega
    case rel => exact ⟨i + 1, rfl, ⟨by have := hi0.out; omega⟩, ⟨by have := HLT.out; omega⟩, ⟨by have := HLT.out; omega⟩, ⟨below_step (below_step hB.out hb5) hb7⟩⟩
  have l1 : decide (i < (X.next.length : Int)) = false := decide_eq_false hlt
  have kX := (DBlk.tail (blk_below HBX.out hB.out) HCX.out 0).trans (show _ = some (Value.slice px.a1 X.next.length px.c1) from rfl)
  clear hkk hk hi0 hi1 hlt
  go_wp2_with (fail)
  go_ret
  exact ⟨rfl, hBr.out⟩
set_option maxHeartbeats 16000000 in
set_option maxRecDepth 100000 in
theorem rSame_calls (X : Tab) (px py : TL) (w : World) (hX : TabR w X px) (hY : TabR w X py) (sX : TSmall X) :
    Calls Try.prog 20 #[.agg (tcells X px).toArray, .agg (tcells X py).toArray] w fun e w' => e = .returned (.bool true) ∧ Below w.heap.size w w' := by
  have HTX := Aside0.mk hX
  have HTY := Aside0.mk hY
  have SX := Aside0.mk sX
  have HCX := Aside0.mk hX.cls
  clear hX hY sX
  go_enter Try.func20, Try.ntmps20
  try dsimp only [List.append]
  go_upto_region 1 with (first | ((with_reducible refine gate_dst (N := 2) rfl ?_); refine box_event ?hg (N := 2) ?hd (cs := (tcells X px).toArray) (t := 29) ?hr ?_; (case hd => rfl); (case hg => rfl); (case hr => first | (go_simp; done) | (go_simp; rfl)); intro gx hg_ w1 hbx_ hb_w1; clear hg_; have hgx : TBlk w1 gx X px 29 := hbx_; clear hbx_) | ((with_reducible refine gate_dst (N := 3) rfl ?_); refine box_event ?hg (N := 3) ?hd (cs := (tcells X py).toArray) (t := 29) ?hr ?_; (case hd => rfl); (case hg => rfl); (case hr => first | (go_simp; done) | (go_simp; rfl)); intro gy hg_ w2 hbx_ hb_w2; clear hg_; have hgy : TBlk w2 gy X py 29 := hbx_; clear hbx_))
  have hbX : TBlk w2 gx X px 29 := blk_below hgx hb_w2
  have hbY : TBlk w2 gy X py 29 := hgy
  have HB2 := Aside0.mk (below_step hb_w1 hb_w2)
  clear hgx hgy hb_w1 hb_w2
  go_upto_region 3 with (first | ((with_reducible refine gate_dst (N := 9) rfl ?_); refine wpList_load_mid rfl 26 (.tmp 8) rfl gx 0 rfl (dcells X px) _ (TBlk.rangeD hbX HCX.out) Try.underlying26 rfl (by rw [dcells_length HCX.out]; exact size26) ?_) | ((with_reducible refine gate_dst (N := 11) rfl ?_); refine wpList_load_mid rfl 26 (.tmp 10) rfl gy 0 rfl (dcells X py) _ (TBlk.rangeD hbY HCX.out) Try.underlying26 rfl (by rw [dcells_length HCX.out]; exact size26) ?_) | (have g_ := b3; clear g_; go_at_call 44; have TX := HTX.out.below (below_step HB2.out b3); have TY := HTY.out.below (below_step HB2.out b3); refine (eqi_n X.size px.a7 py.a7 X.size.length px.c7 py.c7 _ rfl TX.r7 TX.l7 TY.r7 TY.l7 SX.out.s).mono ?_; rintro e v4 ⟨rfl, hb_⟩; clear TX TY; have b4 := below_step b3 hb_; clear hb_ kX kY; have kX := (TBlk.tail (blk_below hbX b4) HCX.out 1).trans (show _ = some (Value.slice px.a4 X.action.length px.c4) from rfl); have kY := (TBlk.tail (blk_below hbY b4) HCX.out 1).trans (show _ = some (Value.slice py.a4 X.action.length py.c4) from rfl); have jX := (TBlk.tail (blk_below hbX b4) HCX.out 2).trans (show _ = some (Value.slice px.a5 X.goto.length px.c5) from rfl); have jY := (TBlk.tail (blk_below hbY b4) HCX.out 2).trans (show _ = some (Value.slice py.a5 X.goto.length py.c5) from rfl)) | (have g_ := b2; clear g_; go_at_call 44; have TX := HTX.out.below (below_step HB2.out b2); have TY := HTY.out.below (below_step HB2.out b2); refine (eqi_n X.left px.a6 py.a6 X.left.length px.c6 py.c6 _ rfl TX.r6 TX.l6 TY.r6 TY.l6 SX.out.l).mono ?_; rintro e v3 ⟨rfl, hb_⟩; clear TX TY; have b3 := below_step b2 hb_; clear hb_ kX kY; have kX := (TBlk.tail (blk_below hbX b3) HCX.out 4).trans (show _ = some (Value.slice px.a7 X.size.length px.c7) from rfl); have kY := (TBlk.tail (blk_below hbY b3) HCX.out 4).trans (show _ = some (Value.slice py.a7 X.size.length py.c7) from rfl)) | (have g_ := b1; clear g_; go_at_call 44; have TX := HTX.out.below (below_step HB2.out b1); have TY := HTY.out.below (below_step HB2.out b1); refine (eqi_n X.terms px.a3 py.a3 X.terms.length px.c3 py.c3 _ rfl TX.r3 TX.l3 TY.r3 TY.l3 SX.out.t).mono ?_; rintro e v2 ⟨rfl, hb_⟩; clear TX TY; have b2 := below_step b1 hb_; clear hb_ kX kY; have kX := (TBlk.tail (blk_below hbX b2) HCX.out 3).trans (show _ = some (Value.slice px.a6 X.left.length px.c6) from rfl); have kY := (TBlk.tail (blk_below hbY b2) HCX.out 3).trans (show _ = some (Value.slice py.a6 X.left.length py.c6) from rfl)) | (go_at_call 43; have TX := HTX.out.below HB2.out; have TY := HTY.out.below HB2.out; refine (rSame11_calls X px py _ TX.toDabR TY.toDabR SX.out).mono ?_; rintro e v1 ⟨rfl, hb_⟩; clear TX TY; have b1 := hb_; clear hb_; have kX := (TBlk.tail (blk_below hbX b1) HCX.out 0).trans (show _ = some (Value.slice px.a3 X.terms.length px.c3) from rfl); have kY := (TBlk.tail (blk_below hbY b1) HCX.out 0).trans (show _ = some (Value.slice py.a3 X.terms.length py.c3) from rfl)))
  have HBX := Aside0.mk (blk_below hbX b4 : TBlk v4 gx X px 29)
  have HBY := Aside0.mk (blk_below hbY b4 : TBlk v4 gy X py 29)
  have HB4 := Aside0.mk (below_step HB2.out b4)
  clear hbX hbY b1 b2 b3 b4 kX kY jX jY
  go_wp2
  go_loopg [5] (X.action.length + 1) (fun kq v5 w' => ∃ i : Int, v5 = .int .i64 i ∧ Aside0 (0 ≤ i) ∧ Aside0 (i ≤ (X.action.length : Int)) ∧ Aside0 ((kq : Int) + i = (X.action.length : Int) + 1) ∧ Aside0 (Below v4.heap.size v4 w'))
  case atStart => exact ⟨0, rfl, ⟨by decide⟩, ⟨by omega⟩, ⟨by omega⟩, ⟨Below.refl _ _⟩⟩
  obtain ⟨i, rfl, hi0, hi1, hk, hB⟩ := hrel
  have hkk := hk.out
  have hBr := Aside0.mk (below_step HB4.out hB.out)
  by_cases hlt : i < (X.action.length : Int)
  · have l1 : decide (i < (X.action.length : Int)) = true := decide_eq_true hlt
    have HLT := Aside0.mk hlt
    have hwi : IntKind.i64.wrap (i + 1) = i + 1 := by have := hi0.out; have := SX.out.a; simp only [i64_w]; unfold wrap64; omega
    have p1 := eq_true hi0.out
    have q1 := eq_true hlt
    obtain ⟨ad, A1, c1, ea, hx_, hl1, hC1⟩ := at_LA HTX.out.r4 i hi0.out hlt
    obtain ⟨bd, B1, d1, eb, hy_, hl2, hD1⟩ := at_LA HTY.out.r4 i hi0.out hlt
    have HEA := Aside0.mk ea
    have HEB := Aside0.mk eb
    have kX := (TBlk.tail (blk_below HBX.out hB.out) HCX.out 1).trans (show _ = some (Value.slice (some ad) X.action.length px.c4) from (by rw [← ea]; rfl))
    have kY := (TBlk.tail (blk_below HBY.out hB.out) HCX.out 1).trans (show _ = some (Value.slice (some bd) X.action.length py.c4) from (by rw [← eb]; rfl))
    have HRL := Aside0.mk (show (rd_LA X.action i).length ≤ 9223372036854775806 from SX.out.ar _ (by have := drop_at X.action ([] : List S38) i hi0.out hlt; exact List.mem_of_mem_drop (i := i.toNat) (by rw [this]; exact List.mem_cons_self)))
    generalize rd_LA X.action i = r1 at hx_ hl1 hC1 HRL hy_ hl2 hD1
    have hx := (hBr.out.cell (World.block_lt_of_cell? w _ hx_)).trans hx_
    have hy := (hBr.out.cell (World.block_lt_of_cell? w _ hy_)).trans hy_
    have HC1 := Aside0.mk hC1
    have HD1 := Aside0.mk hD1
    have HX1 := Aside0.mk hx_
    have HY1 := Aside0.mk hy_
    obtain ⟨gO, hgO⟩ : ∃ gO, gO = gk := ⟨_, rfl⟩
    rw [← hgO] at hkk
    clear hC1 hD1 hl1 hl2 hlt ea eb hx_ hy_
    go_wp2
    repeat (go_quiet (fail); try go_wp2)
    go_loopg [6] (r1.length + 1) (fun kq v6 w' => ∃ k : Int, v6 = .int .i64 k ∧ Aside0 (0 ≤ k) ∧ Aside0 (k ≤ (r1.length : Int)) ∧ Aside0 ((kq : Int) + k = (r1.length : Int) + 1) ∧ Aside0 (Below v4.heap.size v4 w'))
    case atStart => exact ⟨0, rfl, ⟨by decide⟩, ⟨by omega⟩, ⟨by omega⟩, ⟨by first | exact hB.out | exact pw_below_drewN hB.out _⟩⟩
    clear kX kY hx hy hBr hB
    obtain ⟨k, rfl, hk0, hk1, hkk2, hB⟩ := hrel
    have hkk3 := hkk2.out
    have hBr := Aside0.mk (below_step HB4.out hB.out)
    have kX := (TBlk.tail (blk_below HBX.out hB.out) HCX.out 1).trans (show _ = some (Value.slice (some ad) X.action.length px.c4) from (by rw [← HEA.out]; rfl))
    have kY := (TBlk.tail (blk_below HBY.out hB.out) HCX.out 1).trans (show _ = some (Value.slice (some bd) X.action.length py.c4) from (by rw [← HEB.out]; rfl))
    have hx := (hBr.out.cell (World.block_lt_of_cell? w _ HX1.out)).trans HX1.out
    have hy := (hBr.out.cell (World.block_lt_of_cell? w _ HY1.out)).trans HY1.out
    by_cases hlt : k < (r1.length : Int)
    · have l2 : decide (k < (r1.length : Int)) = true := decide_eq_true hlt
      have hwk : IntKind.i64.wrap (k + 1) = k + 1 := by have := hk0.out; have := HRL.out; simp only [i64_w]; unfold wrap64; omega
      have p2 := eq_true hk0.out
      have q2 := eq_true hlt
      obtain ⟨ad3, ea3, hx30, hx31⟩ := at_T38 HC1.out k hk0.out hlt
      subst ea3
      obtain ⟨bd3, eb3, hy30, hy31⟩ := at_T38 HD1.out k hk0.out hlt
      subst eb3
      have hx0 := (hBr.out.cell (World.block_lt_of_cell? w _ hx30)).trans hx30
      have hx1 := (hBr.out.cell (World.block_lt_of_cell? w _ hx31)).trans hx31
      have hy0 := (hBr.out.cell (World.block_lt_of_cell? w _ hy30)).trans hy30
      have hy1 := (hBr.out.cell (World.block_lt_of_cell? w _ hy31)).trans hy31
      have HLK := Aside0.mk hlt
      clear hlt hx30 hx31 hy30 hy31
      generalize rd_T38 r1 k = y at hx0 hx1 hy0 hy1
      have y0 : (y.f0 == y.f0) = true := beq_self_eq_true _
      have y1 : (y.f1 == y.f1) = true := beq_self_eq_true _
      have hu38 := Try.underlying38
      go_wp2
      repeat (go_quiet (fail); try go_wp2)
      go_roundg (gk - 1)
      case measure => have := HLK.out; have := hk0.out; omega
      case rel => exact ⟨k + 1, rfl, ⟨by have := hk0.out; omega⟩, ⟨by have := HLK.out; omega⟩, ⟨by have := HLK.out; omega⟩, ⟨by first | exact hB.out | exact pw_below_drewN hB.out _⟩⟩
    have l2 : decide (k < (r1.length : Int)) = false := decide_eq_false hlt
    clear hkk3 hkk2 hk0 hk1 hlt
    go_wp2
    go_roundg (gO - 1)
    case measure => have := HLT.out; have := hi0.out; omega
    case rel => exact ⟨i + 1, rfl, ⟨by have := hi0.out; omega⟩, ⟨by have := HLT.out; omega⟩, ⟨by have := HLT.out; omega⟩, hB⟩
  have l1 : decide (i < (X.action.length : Int)) = false := decide_eq_false hlt
  have kX := (TBlk.tail (blk_below HBX.out hB.out) HCX.out 1).trans (show _ = some (Value.slice px.a4 X.action.length px.c4) from rfl)
  clear hkk hk hi0 hi1 hlt
  go_wp2
  go_loopg [7] (X.goto.length + 1) (fun kq v7 w' => ∃ i : Int, v7 = .int .i64 i ∧ Aside0 (0 ≤ i) ∧ Aside0 (i ≤ (X.goto.length : Int)) ∧ Aside0 ((kq : Int) + i = (X.goto.length : Int) + 1) ∧ Aside0 (Below v4.heap.size v4 w'))
  case atStart => exact ⟨0, rfl, ⟨by decide⟩, ⟨by omega⟩, ⟨by omega⟩, hB⟩
  clear kX hBr hB
  obtain ⟨i, rfl, hi0, hi1, hk, hB⟩ := hrel
  have hkk := hk.out
  have hBr := Aside0.mk (below_step HB4.out hB.out)
  by_cases hlt : i < (X.goto.length : Int)
  · have l1 : decide (i < (X.goto.length : Int)) = true := decide_eq_true hlt
    have HLT := Aside0.mk hlt
    have hwi : IntKind.i64.wrap (i + 1) = i + 1 := by have := hi0.out; have := SX.out.g; simp only [i64_w]; unfold wrap64; omega
    have p1 := eq_true hi0.out
    have q1 := eq_true hlt
    obtain ⟨ad, A1, c1, ea, hx, hl1, hC1⟩ := at_L4 (HTX.out.below hBr.out).r5 i hi0.out hlt
    obtain ⟨bd, B1, d1, eb, hy, hl2, hD1⟩ := at_L4 (HTY.out.below hBr.out).r5 i hi0.out hlt
    have kX := (TBlk.tail (blk_below HBX.out hB.out) HCX.out 2).trans (show _ = some (Value.slice (some ad) X.goto.length px.c5) from (by rw [← ea]; rfl))
    have kY := (TBlk.tail (blk_below HBY.out hB.out) HCX.out 2).trans (show _ = some (Value.slice (some bd) X.goto.length py.c5) from (by rw [← eb]; rfl))
    have HRL := Aside0.mk (show (rd_L4 X.goto i).length ≤ 9223372036854775806 from SX.out.gr _ (by have := drop_at X.goto ([] : List Int) i hi0.out hlt; exact List.mem_of_mem_drop (i := i.toNat) (by rw [this]; exact List.mem_cons_self)))
    generalize rd_L4 X.goto i = r1 at hx hl1 hC1 HRL hy hl2 hD1
    have HC1 := Aside0.mk hC1
    have HD1 := Aside0.mk hD1
    have H1 := Aside0.mk hl1
    have H2 := Aside0.mk hl2
    clear hC1 hD1 hl1 hl2 hlt
    go_upto_region 16 with (fail)
    refine start_ (n := 12) (S := fun w' => w'.cell? ⟨gx, 260, none⟩ = some (.slice (some ad) X.goto.length px.c5) ∧ w'.cell? ⟨gy, 260, none⟩ = some (.slice (some bd) X.goto.length py.c5) ∧ w'.cell? (ad.add i.toNat) = some (.slice A1 r1.length c1) ∧ w'.cell? (bd.add i.toNat) = some (.slice B1 r1.length d1)) (ds := []) #[false, false, false, false, false, false, false, false, false, false, false, false] (by kernel_rfl) rfl rfl ⟨kX, kY, hx, hy⟩ (fun hHeld => ?_)
    generalize HW : wr.drew = w5 at hHeld ⊢
    have hb5 : Below wr.heap.size wr w5 := by rw [← HW]; exact below_drew (Below.refl _ _)
    clear HW kX kY hx hy
    refine pure_ (i := 0) (N := some 110) (v := ?_) (a' := ?_) #[true, false, false, false, false, false, false, false, false, false, false, false] rfl rfl (by kernel_rfl) (fun _ _ _ h => h) (Or.inl ⟨by rfl, ?_⟩) ?_ ?_
    rotate_left
    · intro w'
      go_simp
      with_reducible rfl
    rotate_left
    · simp only [Act.put, List.setIfInBounds_toArray, List.set_cons_zero, List.set_cons_succ, i64_w, i32_w]
      rfl
    refine pure_ (i := 2) (N := some 112) (v := ?_) (a' := ?_) #[true, false, true, false, false, false, false, false, false, false, false, false] rfl rfl (by kernel_rfl) (fun _ _ _ h => h) (Or.inl ⟨by rfl, ?_⟩) ?_ ?_
    rotate_left
    · intro w'
      go_simp
      with_reducible rfl
    rotate_left
    · simp only [Act.put, List.setIfInBounds_toArray, List.set_cons_zero, List.set_cons_succ, i64_w, i32_w]
      rfl
    refine pure_ (i := 5) (N := some 115) (v := ?_) (a' := ?_) #[true, false, true, false, false, true, false, false, false, false, false, false] rfl rfl (by kernel_rfl) (fun _ _ _ h => h) (Or.inl ⟨by rfl, ?_⟩) ?_ ?_
    rotate_left
    · intro w'
      go_simp
      with_reducible rfl
    rotate_left
    · simp only [Act.put, List.setIfInBounds_toArray, List.set_cons_zero, List.set_cons_succ, i64_w, i32_w]
      rfl
    refine pure_ (i := 7) (N := some 117) (v := ?_) (a' := ?_) #[true, false, true, false, false, true, false, true, false, false, false, false] rfl rfl (by kernel_rfl) (fun _ _ _ h => h) (Or.inl ⟨by rfl, ?_⟩) ?_ ?_
    rotate_left
    · intro w'
      go_simp
      with_reducible rfl
    rotate_left
    · simp only [Act.put, List.setIfInBounds_toArray, List.set_cons_zero, List.set_cons_succ, i64_w, i32_w]
      rfl
    refine take_ (i := 1) (N := some 111) (v := ?_) (a' := ?_) #[true, true, true, false, false, true, false, true, false, false, false, false] rfl rfl (by kernel_rfl) (fun _ _ _ h => h) (Or.inl ⟨by rfl, ?_⟩) hHeld ?_ ?_
    rotate_left
    · rintro w' ⟨s0, s1, s2, s3⟩
      go_simp
      with_reducible rfl
    rotate_left
    · simp only [Act.put, List.setIfInBounds_toArray, List.set_cons_zero, List.set_cons_succ, i64_w, i32_w]
      rfl
    refine pure_ (i := 3) (N := some 113) (v := ?_) (a' := ?_) #[true, true, true, true, false, true, false, true, false, false, false, false] rfl rfl (by kernel_rfl) (fun _ _ _ h => h) (Or.inl ⟨by rfl, ?_⟩) ?_ ?_
    rotate_left
    · intro w'
      go_simp
      with_reducible rfl
    rotate_left
    · simp only [Act.put, List.setIfInBounds_toArray, List.set_cons_zero, List.set_cons_succ, i64_w, i32_w]
      rfl
    refine take_ (i := 4) (N := some 114) (v := ?_) (a' := ?_) #[true, true, true, true, true, true, false, true, false, false, false, false] rfl rfl (by kernel_rfl) (fun _ _ _ h => h) (Or.inl ⟨by rfl, ?_⟩) hHeld ?_ ?_
    rotate_left
    · rintro w' ⟨s0, s1, s2, s3⟩
      go_simp
      with_reducible rfl
    rotate_left
    · simp only [Act.put, List.setIfInBounds_toArray, List.set_cons_zero, List.set_cons_succ, i64_w, i32_w]
      rfl
    refine take_ (i := 6) (N := some 116) (v := ?_) (a' := ?_) #[true, true, true, true, true, true, true, true, false, false, false, false] rfl rfl (by kernel_rfl) (fun _ _ _ h => h) (Or.inl ⟨by rfl, ?_⟩) hHeld ?_ ?_
    rotate_left
    · rintro w' ⟨s0, s1, s2, s3⟩
      go_simp
      with_reducible rfl
    rotate_left
    · simp only [Act.put, List.setIfInBounds_toArray, List.set_cons_zero, List.set_cons_succ, i64_w, i32_w]
      rfl
    refine pure_ (i := 8) (N := some 118) (v := ?_) (a' := ?_) #[true, true, true, true, true, true, true, true, true, false, false, false] rfl rfl (by kernel_rfl) (fun _ _ _ h => h) (Or.inl ⟨by rfl, ?_⟩) ?_ ?_
    rotate_left
    · intro w'
      go_simp
      with_reducible rfl
    rotate_left
    · simp only [Act.put, List.setIfInBounds_toArray, List.set_cons_zero, List.set_cons_succ, i64_w, i32_w]
      rfl
    refine take_ (i := 9) (N := some 119) (v := ?_) (a' := ?_) #[true, true, true, true, true, true, true, true, true, true, false, false] rfl rfl (by kernel_rfl) (fun _ _ _ h => h) (Or.inl ⟨by rfl, ?_⟩) hHeld ?_ ?_
    rotate_left
    · rintro w' ⟨s0, s1, s2, s3⟩
      go_simp
      with_reducible rfl
    rotate_left
    · simp only [Act.put, List.setIfInBounds_toArray, List.set_cons_zero, List.set_cons_succ, i64_w, i32_w]
      rfl
    refine one_ (i := 10) (N := some 120) #[true, true, true, true, true, true, true, true, true, true, true, false] rfl rfl (by kernel_rfl) (by decide) (fun K hK => ?_)
    refine goes_ Try.func44 (by kernel_rfl) rfl #[.slice A1 r1.length c1, .slice B1 r1.length d1] (by rfl) rfl rfl (by simp only [List.map_toArray, List.map_cons, List.map_nil]; rfl) ?_
    with_reducible refine (eqi_n r1 A1 B1 r1.length c1 d1 w5 rfl (Kd.C_below HC1.out hb5) H1.out (Kd.C_below HD1.out hb5) H2.out HRL.out).mono ?_
    rintro e w7 ⟨rfl, hb7⟩
    refine ⟨_, rfl, ?_⟩
    refine hK.out _ _ ⟨((hb7.cell (World.block_lt_of_cell? w5 _ hHeld.1)).trans hHeld.1), ((hb7.cell (World.block_lt_of_cell? w5 _ hHeld.2.1)).trans hHeld.2.1), ((hb7.cell (World.block_lt_of_cell? w5 _ hHeld.2.2.1)).trans hHeld.2.2.1), ((hb7.cell (World.block_lt_of_cell? w5 _ hHeld.2.2.2)).trans hHeld.2.2.2)⟩ (fun hHeld => ?_)
    clear hK K
    refine norm_ (a' := ?_) ?_ ?_
    rotate_left
    · show Act.put _ (some 120) _ = _
      simp only [Act.put, List.setIfInBounds_toArray, List.set_cons_zero, List.set_cons_succ, i64_w, i32_w]
      rfl
    refine pure_ (i := 11) (N := some 121) (v := ?_) (a' := ?_) #[true, true, true, true, true, true, true, true, true, true, true, true] rfl rfl (by kernel_rfl) (fun _ _ _ h => h) (Or.inl ⟨by rfl, ?_⟩) ?_ ?_
    rotate_left
    · intro w'
      go_simp
      with_reducible rfl
    rotate_left
    · simp only [Act.put, List.setIfInBounds_toArray, List.set_cons_zero, List.set_cons_succ, i64_w, i32_w]
      rfl
    refine done_ (by kernel_rfl) ?_
    clear hHeld
    go_wp2_with (fail)
    go_roundg (gk - 1)
    case measure => have := HLT.out; have := hi0.out; omega
    case rel => exact ⟨i + 1, rfl, ⟨by have := hi0.out; omega⟩, ⟨by have := HLT.out; omega⟩, ⟨by have := HLT.out; omega⟩, ⟨below_step (below_step hB.out hb5) hb7⟩⟩
  have l1 : decide (i < (X.goto.length : Int)) = false := decide_eq_false hlt
  have kX := (TBlk.tail (blk_below HBX.out hB.out) HCX.out 2).trans (show _ = some (Value.slice px.a5 X.goto.length px.c5) from rfl)
  clear hkk hk hi0 hi1 hlt
  go_wp2_with (fail)
  go_ret
  exact ⟨rfl, hBr.out⟩
end Go.Proofs.Ytkeekganabafbaa.X
end
section
namespace Go.Proofs.Ytkeekganabafbaa.X
open Go.RowKit Go.Proofs.YtkeekganabafbaaW.PrintWords Go.Proofs.YtkeekganabafbaaW.PrintLast Go.Proofs.YtkeekganabafbaaW.PrintMore Go.Proofs.Ytkeekganabafbaa.Pure
attribute [local go_sem] max2_int min2_int max_two min_two max_three min_three max_four min_four
set_option linter.unusedVariables false
set_option linter.unusedSimpArgs false
theorem T0_small : TSmall T0 := ⟨T0_cls, fun k hk => by rw [List.eq_of_mem_replicate hk]; decide, by decide, (fun r hr => by cases hr), by decide, by decide, by decide, (fun r hr => by cases hr), by decide, (fun r hr => by cases hr), by decide, by decide⟩
theorem may_small {T : Tab} (h : mayB T = true) (hc : T.cls.length = 256) : TSmall T := by
  have M := may_parts h
  have D := dfa_parts M.dfa
  have n2 := D.n2
  have u := D.u
  have t := M.t
  have s2 := M.s2
  have g := M.g
  have p2 := M.p2
  have z := M.z
  refine ⟨hc, fun k hk => ?_, by omega, fun r hr => ?_, by omega, by omega, by omega, fun r hr => ?_, by omega, fun r hr => ?_, by omega, by omega⟩
  · have h1 := D.cls k hk
    have h2 := next_w D
    have : (-9223372036854775808 : Int) ≤ k ∧ k < 9223372036854775808 := by omega
    show (decide (IntKind.i64.min ≤ k) && decide (k ≤ IntKind.i64.max)) = true
    rw [Bool.and_eq_true, decide_eq_true_eq, decide_eq_true_eq]
    exact ⟨by show (-9223372036854775808 : Int) ≤ k; omega, by show k ≤ (9223372036854775807 : Int); omega⟩
  · have := (D.row r hr).2.1; omega
  · have h1 := may_row M r hr
    have := M.t2
    omega
  have h1 := may_goto M r hr
  have := M.n2
  omega
def okA (l : List Int) : Bool := l.all (fun x => decide (0 ≤ x) && decide (x < 256))
theorem okA_BI {l : List Int} (h : okA l = true) : BI l := BI_of l h
def incunablelaw22_TablesAgain.f (k : Nat) (l0 : List Int) : Option Bool := if okA l0 = true ∧ l0.length ≤ 9223372036854775800 then some true else none
set_option maxHeartbeats 16000000 in
set_option maxRecDepth 100000 in
theorem incunablelaw22_TablesAgain.calls (k : Nat) (A0 : Option Addr) (c0 : Nat) (l0 : List Int) (r : Bool) (w : World) (hr0 : Kd.C (Kd.int .u8) w A0 l0.length l0) (hc0 : l0.length ≤ c0) (h : incunablelaw22_TablesAgain.f k l0 = some r) :
    Calls Try.prog 7 #[.slice A0 l0.length c0] w fun e w' => e = .returned (.bool r) ∧ Below w.heap.size w w' := by
  unfold incunablelaw22_TablesAgain.f at h
  by_cases hq : okA l0 = true ∧ l0.length ≤ 9223372036854775800
  · rw [if_pos hq] at h
    injection h with h
    subst h
    have HBI := Aside0.mk (okA_BI hq.1)
    have HLEN := Aside0.mk hq.2
    have HR0 := Aside0.mk hr0
    have HC0 := Aside0.mk hc0
    obtain ⟨T, e, hpe⟩ : ∃ T e, parseI l0 = (T, e) := ⟨_, _, rfl⟩
    have HPA := Aside0.mk hpe
    clear hq hr0 hc0 hpe
    go_enter Try.func7, Try.ntmps7
    go_upto_region 4 with (first | (go_at_call 9; refine (works_calls _).mono ?_; rintro e' w1 ⟨rfl, hb1⟩) | (go_at_call 17; refine (Parse_calls l0 A0 l0.length c0 _ rfl HLEN.out HBI.out (Kd.C_below HR0.out hb1) HC0.out).mono ?_; rintro e' w2 ⟨p, rfl, hcy, hty, hb2⟩; rw [HPA.out] at hcy hty; simp only [HPA.out]) | ((with_reducible refine gate_dst (N := 3) rfl ?_); refine box_event ?hg (N := 3) ?hd (cs := (tcells T0 P0).toArray) (t := 29) ?hr ?_; (case hd => rfl); (case hg => rfl); (case hr => rw [← zc29]; simp [execOp, go_sem]); intro b3 hg w3 hTB3 hbe3; have hz3 : w2.heap.size ≤ b3 := Nat.le_of_eq hg.symm; clear hg) | (refine wpList_store_row rfl 29 (.tmp 3) (.tmp 12) rfl b3 (tcells T p).toArray rfl rfl 29 (tcells T0 P0).toArray hTB3 (sizeT hcy) ((tsz T0_cls).trans (tsz hcy).symm) (tcells_one _ _) ?_))
    have hTB4 : TBlk (w3.setRow b3 (tcells T p).toArray) b3 T p 29 := setRow_heap w3 b3 _ _ 29 (0, 0) hTB3
    have hb24 : Below w2.heap.size w2 (w3.setRow b3 (tcells T p).toArray) := keep_below hbe3 (row_kb w3 b3 _) hz3
    generalize w3.setRow b3 (tcells T p).toArray = w4 at hTB4 hb24 ⊢
    have HTB4 := Aside0.mk hTB4
    have HTY4 := Aside0.mk (hty.tab.below hb24)
    have HB4 := Aside0.mk (below_step (below_step hb1 hb2) hb24)
    have HCY := Aside0.mk hcy
    clear hTB3 hbe3 hz3 hTB4 hb24 hty hb1 hb2 hcy
    by_cases he : e = 0
    · subst he
      have hpp := bytes_parse l0 HBI.out (by rw [HPA.out])
      rw [HPA.out] at hpp
      have HBY := Aside0.mk hpp.1
      have HMB := Aside0.mk (show (if mayB T = true then (0 : Int) else 220) = 0 from if_pos hpp.2.1)
      have HSM := Aside0.mk (may_small hpp.2.1 hpp.2.2)
      clear hpp
      go_wp2_with (first | ((with_reducible refine gate_dst (N := 20) rfl ?_); refine wpList_load_mid rfl 29 (.tmp 3) rfl b3 0 rfl (tcells T p) _ (TBlk.rangeT HTB4.out) Try.underlying29 rfl (by rw [tcells_length HCY.out]; exact size29) ?_) | (go_at_call 10; refine (Bytes_calls T p _ HTY4.out HSM.out.n HSM.out.u HSM.out.t).mono ?_; rintro e' w5 ⟨v5, rfl, hR5, hb5⟩; rw [HBY.out] at hR5; simp only [HBY.out]; obtain ⟨A5, c5, rfl⟩ := Kd.R_slice hR5; have HC5 := Aside0.mk (Kd.R_reads' hR5); have hTB5 : TBlk w5 b3 T p 29 := blk_below HTB4.out hb5) | ((with_reducible refine gate_dst (N := 24) rfl ?_); refine wpList_load_mid rfl 29 (.tmp 3) rfl b3 0 rfl (tcells T p) _ (TBlk.rangeT hTB5) Try.underlying29 rfl (by rw [tcells_length HCY.out]; exact size29) ?_) | (go_at_call 13; refine (Check_calls T p _ (HTY4.out.below hb5) HSM.out.n HSM.out.u HSM.out.t).mono ?_; rintro e' w6 ⟨he6, hb6⟩; rw [HMB.out] at he6; subst he6) | (go_at_call 12; have hdd : decide (l0 = l0) = true := decide_eq_true rfl; refine (eqb_n l0 l0 l0.length l0.length A0 A5 c0 c5 _ rfl rfl HLEN.out (Kd.C_below HR0.out (below_step (below_step HB4.out hb5) hb6)) HC0.out (Kd.C_below HC5.out.2.2 hb6) HC5.out.2.1).mono ?_; rintro e' w7 ⟨he7, hb7⟩; rw [hdd] at he7; subst he7; clear hdd))
      go_ret
      exact ⟨rfl, below_step (below_step (below_step HB4.out hb5) hb6) hb7⟩
    have hT0 : T = T0 := by
      have h1 := HPA.out
      unfold parseI at h1
      split at h1
      · split at h1
        · exact absurd (Prod.mk.inj h1).2.symm he
        exact (Prod.mk.inj h1).1.symm
      exact (Prod.mk.inj h1).1.symm
    subst hT0
    have f1 : (e = 0) = False := eq_false he
    have f2 : decide (e = 0) = false := decide_eq_false he
    have f3 : (e == 0) = false := beq_eq_false_iff_ne.mpr he
    go_wp2_with (first | ((with_reducible refine gate_dst (N := 16) rfl ?_); refine wpList_load_mid rfl 29 (.tmp 3) rfl b3 0 rfl (tcells T0 p) _ (TBlk.rangeT HTB4.out) Try.underlying29 rfl (by rw [tcells_length HCY.out]; exact size29) ?_) | (go_at_call 11; rw [zc29]; refine (Same_calls T0 T0 p P0 _ HTY4.out (T0_tab _ (fun _ => True)).tab T0_small T0_small).mono ?_; rintro e' w5 ⟨r5, rfl, hr5, hb5⟩; obtain rfl : r5 = true := hr5.2 rfl; clear hr5))
    go_ret
    exact ⟨rfl, below_step HB4.out hb5⟩
  rw [if_neg hq] at h
  cases h
end Go.Proofs.Ytkeekganabafbaa.X
end
section
namespace Go.Proofs.Ytkeekganabafbaa.X
open Go.RowKit Go.Proofs.YtkeekganabafbaaW.PrintWords Go.Proofs.YtkeekganabafbaaW.PrintLast Go.Proofs.YtkeekganabafbaaW.PrintMore Go.Proofs.Ytkeekganabafbaa.Pure
attribute [local go_sem] max2_int min2_int max_two min_two max_three min_three max_four min_four
set_option linter.unusedVariables false
set_option linter.unusedSimpArgs false
theorem okay_secL (X : Tab) : okay 1 (secL X) = true := by unfold okay secL; rfl
theorem bytes_no {X : Tab} {b : List Int} {e : Int} (h : bytesI X = (b, e)) (he : e ≠ 0) : b = [] ∧ (e = 220 ∧ mayB X = false ∨ e = 5 ∧ mayB X = true) := by
  unfold bytesI at h
  by_cases hm : mayB X = true
  · rw [if_pos hm] at h
    unfold packI at h
    rw [if_pos (okay_secL X)] at h
    split at h
    · split at h
      · exact absurd (Prod.mk.inj h).2.symm he
      exact ⟨(Prod.mk.inj h).1.symm, .inr ⟨(Prod.mk.inj h).2.symm, hm⟩⟩
    exact ⟨(Prod.mk.inj h).1.symm, .inr ⟨(Prod.mk.inj h).2.symm, hm⟩⟩
  rw [if_neg hm] at h
  exact ⟨(Prod.mk.inj h).1.symm, .inl ⟨(Prod.mk.inj h).2.symm, by simpa using hm⟩⟩
theorem bytes_fine {X : Tab} {b : List Int} (h : bytesI X = (b, 0)) : BI b ∧ mayB X = true := by
  unfold bytesI at h
  by_cases hm : mayB X = true
  · rw [if_pos hm] at h
    obtain ⟨e1, e2, e3, e4⟩ := packI_ok 1 (secL X) b h
    refine ⟨?_, hm⟩
    rw [e1]
    exact BI_append (packB_BI 1 (secL X) (secL_OK (fun _ _ => trivial))) (fourI_BI _)
  rw [if_neg hm] at h
  exact absurd (Prod.mk.inj h).2 (by decide)
set_option maxHeartbeats 16000000 in
set_option maxRecDepth 100000 in
theorem TablesBack_calls (X : Tab) (px : TL) (w : World) (hX : TabR w X px) (sX : TSmall X) :
    Calls Try.prog 6 #[.agg (tcells X px).toArray] w fun e w' => e = .returned (.bool true) ∧ Below w.heap.size w w' := by
  have HX := Aside0.mk hX
  have SX := Aside0.mk sX
  have CX := Aside0.mk hX.cls
  obtain ⟨b, e, hbx_⟩ : ∃ b e, bytesI X = (b, e) := ⟨_, _, rfl⟩
  have HBX := Aside0.mk hbx_
  clear hbx_ hX sX
  go_enter Try.func6, Try.ntmps6
  go_upto_region 4 with (first | ((with_reducible refine gate_dst (N := 1) rfl ?_); refine box_event ?hg (N := 1) ?hd (cs := (tcells X px).toArray) (t := 29) ?hr ?_; (case hd => rfl); (case hg => rfl); (case hr => first | (go_simp; done) | (go_simp; rfl)); intro gx hg w1 hbx1 hb1; clear hg) | (go_at_call 9; refine (works_calls _).mono ?_; rintro e' w3 ⟨rfl, hb3⟩) | ((with_reducible refine gate_dst (N := 10) rfl ?_); (try (refine gate_guard (by rfl) ?_; dsimp only)); refine wpList_load_mid rfl 29 (.tmp 1) rfl gx 0 rfl (tcells X px) _ (TBlk.rangeT (show TBlk w3 gx X px 29 from blk_below hbx1 hb3)) Try.underlying29 rfl (by rw [tcells_length CX.out]; exact size29) ?_) | (go_at_call 10; refine (Bytes_calls X px _ (HX.out.below (below_step hb1 hb3)) SX.out.n SX.out.u SX.out.t).mono ?_; rintro e' w4 ⟨v4, rfl, hR4, hb4⟩; rw [HBX.out] at hR4; simp only [HBX.out]; obtain ⟨A4, c4, rfl⟩ := Kd.R_slice hR4; have HC4 := Aside0.mk (Kd.R_reads' hR4); clear hR4))
  have HB4 := Aside0.mk (below_step (below_step hb1 hb3) hb4)
  have HTX4 := Aside0.mk (show TBlk w4 gx X px 29 from blk_below (blk_below hbx1 hb3) hb4)
  clear hb1 hb3 hb4 hbx1
  by_cases he : e = 0
  rotate_left
  · obtain ⟨rfl, h4⟩ := bytes_no HBX.out he
    rcases h4 with ⟨rfl, h5⟩ | ⟨rfl, h5⟩
    · clear he
      go_wp2_with (fail)
      go_ret
      exact ⟨rfl, HB4.out⟩
    clear he
    have HMB := Aside0.mk (show (if mayB X = true then (0 : Int) else 220) = 0 from if_pos h5)
    clear h5
    go_wp2_with (first | ((with_reducible refine gate_dst (N := 26) rfl ?_); (try (refine gate_guard (by rfl) ?_; dsimp only)); refine wpList_load_mid rfl 29 (.tmp 1) rfl gx 0 rfl (tcells X px) _ (TBlk.rangeT (HTX4.out)) Try.underlying29 rfl (by rw [tcells_length CX.out]; exact size29) ?_) | (go_at_call 13; refine (Check_calls X px _ (HX.out.below HB4.out) SX.out.n SX.out.u SX.out.t).mono ?_; rintro e' w6 ⟨he6, hb6⟩; rw [HMB.out] at he6; subst he6))
    go_ret
    exact ⟨rfl, below_step HB4.out hb6⟩
  subst he
  obtain ⟨hB, hmay⟩ := bytes_fine HBX.out
  have HPA := Aside0.mk (parse_bytes X CX.out b HBX.out).1
  have HMB := Aside0.mk (show (if mayB X = true then (0 : Int) else 220) = 0 from if_pos hmay)
  have HLB := Aside0.mk (bytes_len HBX.out)
  have HBI := Aside0.mk hB
  clear hmay hB
  go_upto_region 7 with (first | (go_at_call 17; refine (Parse_calls b A4 b.length c4 _ rfl (by have := HLB.out; omega) HBI.out HC4.out.2.2 HC4.out.2.1).mono ?_; rintro e' w6 ⟨py, rfl, hcy, hty, hb6⟩; rw [HPA.out] at hcy hty; simp only [HPA.out]) | ((with_reducible refine gate_dst (N := 5) rfl ?_); refine box_event ?hg (N := 5) ?hd (cs := (tcells T0 P0).toArray) (t := 29) ?hr ?_; (case hd => rfl); (case hg => rfl); (case hr => rw [← zc29]; simp [execOp, go_sem]); intro b3 hg w7 hTB3 hbe3; have hz3 : w6.heap.size ≤ b3 := Nat.le_of_eq hg.symm; clear hg) | (refine wpList_store_row rfl 29 (.tmp 5) (.tmp 35) rfl b3 (tcells X py).toArray rfl rfl 29 (tcells T0 P0).toArray hTB3 (sizeT hcy) ((tsz T0_cls).trans (tsz hcy).symm) (tcells_one _ _) ?_))
  have hTB4 : TBlk (w7.setRow b3 (tcells X py).toArray) b3 X py 29 := setRow_heap w7 b3 _ _ 29 (0, 0) hTB3
  have hb24 : Below w6.heap.size w6 (w7.setRow b3 (tcells X py).toArray) := keep_below hbe3 (row_kb w7 b3 _) hz3
  generalize w7.setRow b3 (tcells X py).toArray = w8 at hTB4 hb24 ⊢
  have HTB8 := Aside0.mk hTB4
  have HTX8 := Aside0.mk (show TBlk w8 gx X px 29 from blk_below (blk_below HTX4.out hb6) hb24)
  have HTY8 := Aside0.mk (hty.tab.below hb24)
  have HB8 := Aside0.mk (below_step (below_step HB4.out hb6) hb24)
  clear hTB3 hbe3 hz3 hTB4 hb24 hty hb6 hcy
  go_wp2_with (first | ((with_reducible refine gate_dst (N := 40) rfl ?_); (try (refine gate_guard (by rfl) ?_; dsimp only)); refine wpList_load_mid rfl 29 (.tmp 1) rfl gx 0 rfl (tcells X px) _ (TBlk.rangeT (HTX8.out)) Try.underlying29 rfl (by rw [tcells_length CX.out]; exact size29) ?_) | ((with_reducible refine gate_dst (N := 41) rfl ?_); (try (refine gate_guard (by rfl) ?_; dsimp only)); refine wpList_load_mid rfl 29 (.tmp 5) rfl b3 0 rfl (tcells X py) _ (TBlk.rangeT (HTB8.out)) Try.underlying29 rfl (by rw [tcells_length CX.out]; exact size29) ?_) | (go_at_call 11; refine (Same_calls X X px py _ (HX.out.below HB8.out) HTY8.out SX.out SX.out).mono ?_; rintro e' w9 ⟨r5, rfl, hr5, hb9⟩; obtain rfl : r5 = true := hr5.2 rfl; clear hr5) | ((with_reducible refine gate_dst (N := 45) rfl ?_); (try (refine gate_guard (by rfl) ?_; dsimp only)); refine wpList_load_mid rfl 29 (.tmp 5) rfl b3 0 rfl (tcells X py) _ (TBlk.rangeT (show TBlk _ b3 X py 29 from blk_below HTB8.out hb9)) Try.underlying29 rfl (by rw [tcells_length CX.out]; exact size29) ?_) | (go_at_call 13; refine (Check_calls X py _ (HTY8.out.below hb9) SX.out.n SX.out.u SX.out.t).mono ?_; rintro e' w10 ⟨he6, hb10⟩; rw [HMB.out] at he6; subst he6) | ((with_reducible refine gate_dst (N := 50) rfl ?_); (try (refine gate_guard (by rfl) ?_; dsimp only)); refine wpList_load_mid rfl 29 (.tmp 1) rfl gx 0 rfl (tcells X px) _ (TBlk.rangeT (show TBlk _ gx X px 29 from blk_below (blk_below HTX8.out hb9) hb10)) Try.underlying29 rfl (by rw [tcells_length CX.out]; exact size29) ?_) | ((with_reducible refine gate_dst (N := 51) rfl ?_); (try (refine gate_guard (by rfl) ?_; dsimp only)); refine wpList_load_mid rfl 29 (.tmp 5) rfl b3 0 rfl (tcells X py) _ (TBlk.rangeT (show TBlk _ b3 X py 29 from blk_below (blk_below HTB8.out hb9) hb10)) Try.underlying29 rfl (by rw [tcells_length CX.out]; exact size29) ?_) | (go_at_call 20; refine (rSame_calls X px py _ (HX.out.below (below_step (below_step HB8.out hb9) hb10)) (HTY8.out.below (below_step hb9 hb10)) SX.out).mono ?_; rintro e' w11 ⟨rfl, hb11⟩))
  go_ret
  exact ⟨rfl, below_step (below_step (below_step HB8.out hb9) hb10) hb11⟩
def incunablelaw22_TablesBack.f (k : Nat) (t0 : Tab) : Option Bool := some true
theorem incunablelaw22_TablesBack.calls (k : Nat) (pl0 : TL) (t0 : Tab) (r : Bool) (w : World) (hr0 : TabR w t0 pl0 ∧ TSmall t0) (h : incunablelaw22_TablesBack.f k t0 = some r) :
    Calls Try.prog 6 #[.agg (tcells t0 pl0).toArray] w fun e w' => e = .returned (.bool r) ∧ Below w.heap.size w w' := by
  injection h with h
  subst h
  exact TablesBack_calls t0 pl0 w hr0.1 hr0.2
end Go.Proofs.Ytkeekganabafbaa.X
end
