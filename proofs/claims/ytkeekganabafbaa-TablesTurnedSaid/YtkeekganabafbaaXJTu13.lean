import Derived.SizedLaws
import Derived.ChangeSlices
import Derived.ChangeSame
import Derived.ChangeShapes
import Derived.WideShapes
import Derived.OpenShut
import Derived.Deep.Matrix
import Derived.Deep.SlicePairs
import Derived.Test.YtkeekganabafbaaXJTu0
import Derived.Test.YtkeekganabafbaaXJTu11
import Derived.Test.YtkeekganabafbaaXJTu6
import Derived.Test.YtkeekganabafbaaXJTu12
import Derived.Test.YtkeekganabafbaaXJTu2
import Derived.Test.YtkeekganabafbaaXJTu4
import Derived.Test.YtkeekganabafbaaXJTu1
/- Texts of this claim, joined. -/
section
namespace Go.Proofs.YtkeekganabafbaaW.PrintWords
open Go.ChangeShapes Go.WideShapes
end Go.Proofs.YtkeekganabafbaaW.PrintWords
end
section
namespace Go.Proofs.YtkeekganabafbaaW.Rows
open Go.ChangeShapes Go.WideShapes Go.Proofs.YtkeekganabafbaaW.PrintWords
set_option linter.unusedVariables false
variable {H : Type} {enc : TypeId × Value → H} {P : Program} {w : World} {base : Nat} {held : Bool}
def RowDat (k : IntKind) (r : List Int) (z : DataW H) : Prop := (z = .nil ∧ r = []) ∨ ∃ s, z = .slice (lits k r) s
def RowsDat (k : IntKind) (l : List (List Int)) (d : DataW H) : Prop :=
  (d = .nil ∧ l = []) ∨ ∃ els sp, d = .slice els sp ∧ els.length = l.length ∧ ∀ (j : Nat) (r : List Int), l[j]? = some r → ∃ z, els[j]? = some z ∧ RowDat k r z
theorem open_rows {t e q : TypeId} {k : IntKind} {a : Option Addr} {len cap : Nat} {d : DataW H} {ps : List MemPlace} (ht : P.underlying t = some (.slice e)) (he : P.underlying e = some (.slice q)) (hq : P.underlying q = some (.int k))
    (ce : P.cellsOf e = 1) (cq : P.cellsOf q = 1) (h : DataW.Trod enc P w base (fun _ => true) held t (.slice a len cap) d ps) :
    ∃ l : List (List Int), len = l.length ∧ (Kd.slice q (Kd.int k)).C w a l.length l ∧ l.length ≤ cap ∧ l.length ≤ maxLen ∧ (∀ r ∈ l, ∀ x ∈ r, (Lit.int k x).wf = true) ∧ RowsDat k l d := by
  obtain ⟨fuel, hf⟩ := h
  rcases Deep.open_int_rows ht he hq ce cq hf with ⟨hcs, hx⟩ | ⟨ad, len', cap', A, L, C, Z, hcs, hb, hl, hm, hx, hrow⟩
  · simp [Value.cells] at hcs
    obtain ⟨rfl, rfl, rfl⟩ := hcs
    obtain ⟨hx, _⟩ := Prod.mk.inj hx
    exact ⟨[], rfl, ⟨rfl, by decide, fun h => absurd h (by decide)⟩, Nat.zero_le _, Nat.zero_le _, (fun r hr => by cases hr), Or.inl ⟨hx, rfl⟩⟩
  simp [Value.cells] at hcs
  obtain ⟨rfl, rfl, rfl⟩ := hcs
  obtain ⟨hx, _⟩ := Prod.mk.inj hx
  have hlen : ∀ r, r < cap → ((Z r).take (L r)).length = L r := fun r hr => by
    obtain ⟨_, h1, _, h2, _⟩ := hrow r hr
    rw [List.length_take]; omega
  have hget : ∀ (j : Nat) (r : List Int), ((List.range len).map fun r => (Z r).take (L r))[j]? = some r → j < len ∧ r = (Z j).take (L j) := fun j r hj => by
    obtain ⟨h1, h2⟩ := List.getElem?_eq_some_iff.1 hj
    simp at h1 h2
    exact ⟨h1, h2.symm⟩
  have hin : ∀ r ∈ (List.range len).map fun r => (Z r).take (L r), ∃ j, j < len ∧ r = (Z j).take (L j) := fun r hr => by
    obtain ⟨j, hj, rfl⟩ := List.mem_map.1 hr
    exact ⟨j, List.mem_range.1 hj, rfl⟩
  refine ⟨(List.range len).map fun r => (Z r).take (L r), by simp, ⟨rfl, by simp only [maxLen] at hm; simp; omega, fun _ => ⟨ad, rfl, fun j p hj => ?_⟩⟩, by simpa using hl, by simp; omega, ?_, Or.inr ⟨_, _, hx, by simp, fun j r hj => ?_⟩⟩
  · obtain ⟨h1, rfl⟩ := hget j p hj
    obtain ⟨g1, g2, g3, g4, g5, g6, g7⟩ := hrow j (by omega)
    have hlj := hlen j (by omega)
    refine ⟨[.slice (A j) (L j) (C j)], rfl, ⟨A j, C j, by rw [hlj], by rw [hlj]; exact g2, ?_⟩, fun i u hu => ?_⟩
    · refine Kd.C_of_reads (d := (0 : Int)) (h1 := fun _ => rfl) ⟨rfl, by rw [hlj]; simp only [maxLen] at g3; omega, fun hn => ?_⟩
      cases hA : A j with
      | none => have := g6 hA; omega
      | some a' =>
        refine ⟨a', rfl, fun c hc => ?_⟩
        have hcc : c < L j := by omega
        rw [(g7 a' hA).2 c (by omega)]
        congr 2
        rw [List.getD_eq_getElem?_getD, List.getD_eq_getElem?_getD, List.getElem?_take_of_lt hcc]
    cases i with
    | zero =>
      have : Value.slice (A j) (L j) (C j) = u := by simpa using hu
      subst this
      have e : (Kd.slice q (Kd.int k)).sz = 1 := rfl
      rw [e, Nat.mul_one, Nat.add_zero]
      exact g1
    | succ i => simp at hu
  · intro r hr x hx
    obtain ⟨j, hj, rfl⟩ := hin r hr
    exact (hrow j (by omega)).2.2.2.2.1 x (List.mem_of_mem_take hx)
  obtain ⟨h1, rfl⟩ := hget j r hj
  obtain ⟨g1, g2, g3, g4, g5, g6, g7⟩ := hrow j (by omega)
  refine ⟨Deep.intRow k (A j) (L j) (Z j), by rw [List.getElem?_map, List.getElem?_range h1]; rfl, ?_⟩
  unfold Deep.intRow RowDat
  cases hA : A j with
  | none =>
    left
    refine ⟨rfl, List.eq_nil_of_length_eq_zero ?_⟩
    have := g6 hA
    have := hlen j (by omega)
    omega
  | some a' => exact Or.inr ⟨_, rfl⟩
theorem weightsAll_mem {e : TypeId} {z : DataW H} {n : Nat} (hn : n ∈ z.weights P e) : ∀ {els : List (DataW H)}, z ∈ els → n ∈ DataW.weightsAll P e els
  | x :: r, h => by
    simp only [DataW.weightsAll, List.mem_append]
    rcases List.mem_cons.1 h with rfl | h
    · exact .inl hn
    exact .inr (weightsAll_mem hn h)
theorem lits_length (k : IntKind) (r : List Int) : (lits (H := H) k r).length = r.length := by simp [lits]
theorem sized_rows {t e q : TypeId} {k : IntKind} {ts : List TypeId} {ds : List (DataW H)} {j : Nat} {d : DataW H} {l : List (List Int)} (hsz : (DataW.weightsEach P ts ds).all (· ≤ reachBytes) = true) (hts : ts[j]? = some t) (hds : ds[j]? = some d)
    (ht : P.underlying t = some (.slice e)) (he : P.underlying e = some (.slice q)) {B1 B2 : Nat} (h1 : P.bytesOf e = B1) (h2 : P.bytesOf q = B2) (h : RowsDat k l d) :
    l.length * B1 ≤ 140737488351232 ∧ ∀ r ∈ l, r.length * B2 ≤ 140737488351232 := by
  subst h1; subst h2
  rcases h with ⟨rfl, rfl⟩ | ⟨els, sp, rfl, hl, hj⟩
  · exact ⟨by simp, fun r hr => by cases hr⟩
  refine ⟨?_, fun r hr => ?_⟩
  · have := sized_slice hsz hts hds ht
    have h3 : l.length * P.bytesOf e ≤ (els.length + sp.length) * P.bytesOf e := Nat.mul_le_mul_right _ (by omega)
    exact Nat.le_trans h3 this
  obtain ⟨i, hi⟩ := List.mem_iff_getElem?.1 hr
  obtain ⟨z, hz, hd⟩ := hj i r hi
  rcases hd with ⟨rfl, rfl⟩ | ⟨s, rfl⟩
  · simp
  have hm : (DataW.slice (lits k r) s) ∈ els := List.mem_of_getElem? hz
  have h3 := List.all_eq_true.1 hsz _ (DataW.weights_mem_each hts hds ((r.length + s.length) * P.bytesOf q) (by
    simp only [DataW.weights, ht, List.mem_cons, List.mem_append]
    refine .inr (.inl (weightsAll_mem ?_ hm))
    simp [DataW.weights, he, lits_length]))
  have h4 : (r.length + s.length) * P.bytesOf q ≤ reachBytes := by simpa using h3
  have h5 : r.length * P.bytesOf q ≤ (r.length + s.length) * P.bytesOf q := Nat.mul_le_mul_right _ (by omega)
  exact Nat.le_trans h5 h4
end Go.Proofs.YtkeekganabafbaaW.Rows
end
section
namespace Go.Proofs.Ytkeekganabafbaa.X
open Go.RowKit Go.ChangeShapes Go.WideShapes Go.Proofs.YtkeekganabafbaaW.PrintWords Go.Proofs.YtkeekganabafbaaW.PrintLast Go.Proofs.YtkeekganabafbaaW.PrintMore Go.Proofs.YtkeekganabafbaaW.Rows
set_option linter.unusedVariables false
variable {H : Type} {enc : TypeId × Value → H} {w : World} {base : Nat} {held : Bool}
theorem open_row {fuel : Nat} {t q : TypeId} {cs : List Value} {x : DataW H × List MemPlace} (ht : Try.prog.underlying t = some (.slice q)) (hq : Try.prog.underlying q = some (.int .i64)) (cq : Try.prog.cellsOf q = 1)
    (h : DataW.trod enc Try.prog w base (fun _ => true) held fuel t cs = some x) : ∃ (l : List Int) (A : Option Addr) (c : Nat), cs = [.slice A l.length c] ∧ l.length ≤ c ∧ l.length ≤ maxLen ∧ (Kd.int .i64).C w A l.length l ∧ (∀ y ∈ l, (Lit.int .i64 y).wf = true) ∧ RowDat .i64 l x.1 := by
  rcases open_ints ht hq cq h with ⟨hcs, hy⟩ | ⟨a', len', cap', zs, hcs, hb', hl', hm', hzl, hy, hcell, hwz⟩
  · subst hy
    exact ⟨[], none, 0, hcs, Nat.le_refl _, Nat.zero_le _, Kd.C_nil _ _, (fun y hy => by cases hy), .inl ⟨rfl, rfl⟩⟩
  subst hy
  simp only [if_true] at hzl
  have hlen : (zs.take len').length = len' := by rw [List.length_take]; omega
  refine ⟨zs.take len', some a', cap', by rw [hlen]; exact hcs, by rw [hlen]; exact hl', by rw [hlen]; simp only [maxLen] at hm' ⊢; omega, ?_, (fun y hy => hwz y (List.mem_of_mem_take hy)), .inr ⟨_, rfl⟩⟩
  refine Kd.C_of_reads (d := (0 : Int)) (h1 := fun _ => rfl) ⟨rfl, by rw [hlen]; simp only [maxLen] at hm'; omega, fun hn => ⟨a', rfl, fun c hc => ?_⟩⟩
  have hcc : c < len' := by have hc2 : c < (zs.take len').length := hc; omega
  rw [hcell c (by omega), List.getD_eq_getElem?_getD, List.getD_eq_getElem?_getD, List.getElem?_take_of_lt hcc]
theorem slice_cell {fuel : Nat} {t e : TypeId} {cs : List Value} {x : DataW H × List MemPlace} (ht : Try.prog.underlying t = some (.slice e)) (h : DataW.trod enc Try.prog w base (fun _ => true) held fuel t cs = some x) : ∃ A n c, cs = [.slice A n c] := by
  rcases DataW.trod_slice ht h with ⟨h0, _⟩ | ⟨a, len, cap, _, _, _, _, h0, _⟩
  · exact ⟨none, 0, 0, h0⟩
  exact ⟨some a, len, cap, h0⟩
theorem open_rowsL {fuel : Nat} {t e q : TypeId} {cs : List Value} {x : DataW H × List MemPlace} (ht : Try.prog.underlying t = some (.slice e)) (he : Try.prog.underlying e = some (.slice q)) (hq : Try.prog.underlying q = some (.int .i64)) (ce : Try.prog.cellsOf e = 1) (cq : Try.prog.cellsOf q = 1)
    (h : DataW.trod enc Try.prog w base (fun _ => true) held fuel t cs = some x) : ∃ (l : List (List Int)) (A : Option Addr) (c : Nat), cs = [.slice A l.length c] ∧ l.length ≤ c ∧ l.length ≤ maxLen ∧ (Kd.slice q (Kd.int .i64)).C w A l.length l ∧ RowsDat .i64 l x.1 := by
  obtain ⟨A, n, c, hcs⟩ := slice_cell ht h
  subst hcs
  obtain ⟨l, hl, hC, hc, hm, _, hD⟩ := open_rows (d := x.1) (ps := x.2) ht he hq ce cq ⟨fuel, h⟩
  subst hl
  exact ⟨l, A, c, rfl, hc, hm, hC, hD⟩
def LenDat {α : Type} (l : List α) (z : DataW H) : Prop := (z = .nil ∧ l = []) ∨ ∃ els sp, z = .slice els sp ∧ els.length = l.length
def LensDat {α : Type} (l : List (List α)) (d : DataW H) : Prop := (d = .nil ∧ l = []) ∨ ∃ els sp, d = .slice els sp ∧ els.length = l.length ∧ ∀ (j : Nat) (r : List α), l[j]? = some r → ∃ z, els[j]? = some z ∧ LenDat r z
theorem cells38 : Try.prog.cellsOf 38 = 2 := by kernel_rfl
theorem cells39 : Try.prog.cellsOf 39 = 1 := by kernel_rfl
theorem cells3 : Try.prog.cellsOf 3 = 1 := by kernel_rfl
theorem cells24 : Try.prog.cellsOf 24 = 1 := by kernel_rfl
theorem open_acts {fuel : Nat} {cs : List Value} {x : DataW H × List MemPlace} (h : DataW.trod enc Try.prog w base (fun _ => true) held fuel 39 cs = some x) : ∃ (l : List S38) (A : Option Addr) (c : Nat), cs = [.slice A l.length c] ∧ l.length ≤ c ∧ l.length ≤ maxLen ∧ k38.C w A l.length l ∧ LenDat l x.1 := by
  rcases Deep.open_slice_pairs Try.underlying39 Try.underlying38 cells38 rfl rfl cells3 cells3 h with ⟨hcs, hx⟩ | ⟨ad, len, cap, m, n, V0, V1, D0, D1, Q0, Q1, hcs, hb, hl, hm, hmm, hx, hrow⟩
  · exact ⟨[], none, 0, hcs, Nat.le_refl _, Nat.zero_le _, Kd.C_nil _ _, .inl ⟨by rw [hx], rfl⟩⟩
  simp only [if_true] at hmm
  subst hmm
  have each : ∀ r, r < len → ∃ y : S38, V0 r = .int .i64 y.f0 ∧ V1 r = .int .i64 y.f1 := by
    intro r hr
    obtain ⟨_, _, h3, h4⟩ := hrow r (by omega)
    obtain ⟨z0, hz0, _, _⟩ := DataW.trod_int Try.underlying3 h3
    obtain ⟨z1, hz1, _, _⟩ := DataW.trod_int Try.underlying3 h4
    exact ⟨⟨z0, z1⟩, by simpa using hz0, by simpa using hz1⟩
  haveI : Inhabited S38 := ⟨⟨0, 0⟩⟩
  obtain ⟨y, hy⟩ := Deep.choose_lt each
  have hget : ∀ (j : Nat) (s : S38), ((List.range len).map y)[j]? = some s → j < len ∧ s = y j := fun j s hj => by
    obtain ⟨h1, h2⟩ := List.getElem?_eq_some_iff.1 hj
    simp at h1 h2
    exact ⟨h1, h2.symm⟩
  refine ⟨(List.range len).map y, some ad, m, by simpa using hcs, by simpa using hl, by simp; omega, ⟨rfl, by simp only [maxLen] at hm; simp; omega, fun _ => ⟨ad, rfl, fun j p hj => ?_⟩⟩, .inr ⟨_, _, by rw [hx], by simp⟩⟩
  obtain ⟨h1, rfl⟩ := hget j p hj
  obtain ⟨g1, g2, _, _⟩ := hrow j (by omega)
  obtain ⟨e1, e2⟩ := hy j h1
  refine ⟨[.int .i64 (y j).f0, .int .i64 (y j).f1], rfl, k38_mk w (y j), fun i u hu => ?_⟩
  rcases i with _ | _ | i
  · injection hu with hu
    subst hu
    rw [show k38.sz = 2 from rfl, Nat.add_zero, ← e1]
    exact g1
  · injection hu with hu
    subst hu
    rw [show k38.sz = 2 from rfl, ← e2]
    exact g2
  simp at hu
theorem open_actrows {fuel : Nat} {cs : List Value} {x : DataW H × List MemPlace} (h : DataW.trod enc Try.prog w base (fun _ => true) held fuel 27 cs = some x) : ∃ (l : List (List S38)) (A : Option Addr) (c : Nat), cs = [.slice A l.length c] ∧ l.length ≤ c ∧ l.length ≤ maxLen ∧ (Kd.slice 38 k38).C w A l.length l ∧ LensDat l x.1 := by
  rcases Deep.open_slice1 Try.underlying27 cells39 h with ⟨hcs, hx⟩ | ⟨ad, len, cap, m, n, V, D, Q, hcs, hb, hl, hm, hmm, hx, hrow⟩
  · exact ⟨[], none, 0, hcs, Nat.le_refl _, Nat.zero_le _, Kd.C_nil _ _, .inl ⟨by rw [hx], rfl⟩⟩
  simp only [if_true] at hmm
  subst hmm
  have each : ∀ r, r < len → ∃ y : List S38, LenDat y (D r) ∧ ∃ A c, V r = .slice A y.length c ∧ y.length ≤ c ∧ k38.C w A y.length y := by
    intro r hr
    obtain ⟨_, h3⟩ := hrow r (by omega)
    obtain ⟨l, A, c, e, h4, h5, h6, h7⟩ := open_acts h3
    exact ⟨l, h7, A, c, by simpa using e, h4, h6⟩
  haveI : Inhabited (List S38) := ⟨[]⟩
  obtain ⟨y, hy⟩ := Deep.choose_lt each
  have hget : ∀ (j : Nat) (s : List S38), ((List.range len).map y)[j]? = some s → j < len ∧ s = y j := fun j s hj => by
    obtain ⟨h1, h2⟩ := List.getElem?_eq_some_iff.1 hj
    simp at h1 h2
    exact ⟨h1, h2.symm⟩
  have hin : ∀ s ∈ (List.range len).map y, ∃ j, j < len ∧ s = y j := fun s hs => by
    obtain ⟨j, hj, rfl⟩ := List.mem_map.1 hs
    exact ⟨j, List.mem_range.1 hj, rfl⟩
  refine ⟨(List.range len).map y, some ad, m, by simpa using hcs, by simpa using hl, by simp; omega, ⟨rfl, by simp only [maxLen] at hm; simp; omega, fun _ => ⟨ad, rfl, fun j p hj => ?_⟩⟩, .inr ⟨_, _, by rw [hx], by simp, fun j r hj => ?_⟩⟩
  · obtain ⟨h1, rfl⟩ := hget j p hj
    obtain ⟨g1, _⟩ := hrow j (by omega)
    obtain ⟨_, A, c, e1, e2, e3⟩ := hy j h1
    refine ⟨[.slice A (y j).length c], rfl, ⟨A, c, rfl, e2, e3⟩, fun i u hu => ?_⟩
    rcases i with _ | i
    · injection hu with hu
      subst hu
      rw [show (Kd.slice 38 k38).sz = 1 from rfl, Nat.mul_one, Nat.add_zero, ← e1]
      exact g1
    simp at hu
  obtain ⟨h1, rfl⟩ := hget j r hj
  exact ⟨D j, by simp [h1], (hy j h1).1⟩
theorem list_ints : ∀ (C : List Value), (∀ i, i < C.length → ∃ z, C[i]? = some (.int .i64 z) ∧ (Lit.int .i64 z).wf = true) → ∃ l : List Int, C = l.map (Value.int .i64) ∧ ∀ z ∈ l, (Lit.int .i64 z).wf = true
  | [], _ => ⟨[], rfl, fun z hz => by cases hz⟩
  | v :: C, h => by
    obtain ⟨z, hz, hw⟩ := h 0 (by simp)
    injection hz with hz
    obtain ⟨l, hl, hws⟩ := list_ints C (fun i hi => by have := h (i + 1) (by simpa using hi); simpa using this)
    refine ⟨z :: l, by rw [hz, hl]; rfl, fun y hy => ?_⟩
    rcases List.mem_cons.1 hy with rfl | hy
    · exact hw
    exact hws y hy
theorem drop_one {L : List Value} {k : Nat} {v : Value} (h : (L.drop k).take 1 = [v]) : L.drop k = v :: L.drop (k + 1) := by
  rcases hq : L.drop k with _ | ⟨a, r⟩
  · rw [hq] at h; cases h
  rw [hq] at h
  have h1 : a = v := by simpa using h
  have h2 : L.drop (k + 1) = r := by rw [← List.drop_drop, hq]; rfl
  rw [h1, h2]
theorem six {α : Type} {l : List α} (h : l.length = 6) : ∃ a b c d e f, l = [a, b, c, d, e, f] := by
  rcases l with _ | ⟨a, _ | ⟨b, _ | ⟨c, _ | ⟨d, _ | ⟨e, _ | ⟨f, _ | ⟨g, l⟩⟩⟩⟩⟩⟩⟩
  case cons.cons.cons.cons.cons.cons.nil => exact ⟨a, b, c, d, e, f, rfl⟩
  all_goals simp at h
theorem three {α : Type} {l : List α} (h : l.length = 3) : ∃ a b c, l = [a, b, c] := by
  rcases l with _ | ⟨a, _ | ⟨b, _ | ⟨c, _ | ⟨g, l⟩⟩⟩⟩
  case cons.cons.cons.nil => exact ⟨a, b, c, rfl⟩
  all_goals simp at h
theorem cells22 : Try.prog.cellsOf 22 = 256 := by kernel_rfl
theorem cells26 : Try.prog.cellsOf 26 = 258 := by kernel_rfl
theorem cells29 : Try.prog.cellsOf 29 = 263 := by kernel_rfl
theorem cells23 : Try.prog.cellsOf 23 = 1 := by kernel_rfl
theorem cells27 : Try.prog.cellsOf 27 = 1 := by kernel_rfl
def TabDat (T : Tab) (d : DataW H) : Prop := ∃ dc dn dr dt da dg dl ds, d = .agg [.agg [dc, dn, dr], dt, da, dg, dl, ds] ∧ RowsDat .i64 T.next dn ∧ RowDat .i64 T.rule dr ∧ RowDat .i64 T.terms dt ∧ LensDat T.action da ∧ RowsDat .i64 T.goto dg ∧ RowDat .i64 T.left dl ∧ RowDat .i64 T.size ds
set_option maxRecDepth 10000 in
theorem open_tables {cs : Array Value} {d : DataW H} {ps : List MemPlace} (h : DataW.Trod enc Try.prog w base (fun _ => true) held 29 (.agg cs) d ps) :
    ∃ (T : Tab) (p : TL), cs = (tcells T p).toArray ∧ TabR w T p ∧ (∀ k ∈ T.cls, (Lit.int .i64 k).wf = true) ∧ TabDat T d := by
  obtain ⟨fuel, hf⟩ := h
  obtain ⟨xs, n, _, hx, hlen, hxl, hg⟩ := DataW.trod_struct Try.underlying29 hf
  obtain ⟨x0, x1, x2, x3, x4, x5, rfl⟩ := six hxl
  have g0 : DataW.trod enc Try.prog w base (fun _ => true) held n 26 (((Value.agg cs).cells.toList.drop 0).take (Try.prog.cellsOf 26)) = some x0 := hg 0 _ rfl
  have g1 : DataW.trod enc Try.prog w base (fun _ => true) held n 24 (((Value.agg cs).cells.toList.drop 258).take (Try.prog.cellsOf 24)) = some x1 := hg 1 _ rfl
  have g2 : DataW.trod enc Try.prog w base (fun _ => true) held n 27 (((Value.agg cs).cells.toList.drop 259).take (Try.prog.cellsOf 27)) = some x2 := hg 2 _ rfl
  have g3 : DataW.trod enc Try.prog w base (fun _ => true) held n 23 (((Value.agg cs).cells.toList.drop 260).take (Try.prog.cellsOf 23)) = some x3 := hg 3 _ rfl
  have g4 : DataW.trod enc Try.prog w base (fun _ => true) held n 24 (((Value.agg cs).cells.toList.drop 261).take (Try.prog.cellsOf 24)) = some x4 := hg 4 _ rfl
  have g5 : DataW.trod enc Try.prog w base (fun _ => true) held n 24 (((Value.agg cs).cells.toList.drop 262).take (Try.prog.cellsOf 24)) = some x5 := hg 5 _ rfl
  rw [cells26] at g0
  rw [cells24] at g1 g4 g5
  rw [cells27] at g2
  rw [cells23] at g3
  obtain ⟨ys, m, _, hy, hlen2, hyl, hk⟩ := DataW.trod_struct Try.underlying26 g0
  obtain ⟨y0, y1, y2, rfl⟩ := three hyl
  have k0 : DataW.trod enc Try.prog w base (fun _ => true) held m 22 (((((Value.agg cs).cells.toList.drop 0).take 258).drop 0).take (Try.prog.cellsOf 22)) = some y0 := hk 0 _ rfl
  have k1 : DataW.trod enc Try.prog w base (fun _ => true) held m 23 (((((Value.agg cs).cells.toList.drop 0).take 258).drop 256).take (Try.prog.cellsOf 23)) = some y1 := hk 1 _ rfl
  have k2 : DataW.trod enc Try.prog w base (fun _ => true) held m 24 (((((Value.agg cs).cells.toList.drop 0).take 258).drop 257).take (Try.prog.cellsOf 24)) = some y2 := hk 2 _ rfl
  rw [cells22] at k0
  rw [cells23] at k1
  rw [cells24] at k2
  obtain ⟨zs, m2, _, hz, hlen3, hzl, ha⟩ := DataW.trod_array Try.underlying22 k0
  obtain ⟨l1, A1, c1, e1, b1, m1, C1, R1⟩ := open_rowsL Try.underlying23 Try.underlying24 Try.underlying3 cells24 cells3 k1
  obtain ⟨l2, A2, c2, e2, b2, m2', C2, _, R2⟩ := open_row Try.underlying24 Try.underlying3 cells3 k2
  obtain ⟨l3, A3, c3, e3, b3, m3, C3, _, R3⟩ := open_row Try.underlying24 Try.underlying3 cells3 g1
  obtain ⟨l4, A4, c4, e4, b4, m4, C4, R4⟩ := open_actrows g2
  obtain ⟨l5, A5, c5, e5, b5, m5, C5, R5⟩ := open_rowsL Try.underlying23 Try.underlying24 Try.underlying3 cells24 cells3 g3
  obtain ⟨l6, A6, c6, e6, b6, m6, C6, _, R6⟩ := open_row Try.underlying24 Try.underlying3 cells3 g4
  obtain ⟨l7, A7, c7, e7, b7, m7, C7, _, R7⟩ := open_row Try.underlying24 Try.underlying3 cells3 g5
  obtain ⟨L, hL⟩ : ∃ L, L = (Value.agg cs).cells.toList := ⟨_, rfl⟩
  have hcs : cs.toList = L := hL.symm
  rw [← hL] at hlen hlen2 hlen3 ha e1 e2 e3 e4 e5 e6 e7
  rw [cells29] at hlen
  rw [cells22] at hlen3
  simp only [List.drop_zero] at hlen2 hlen3 ha e1 e2
  obtain ⟨M, hM⟩ : ∃ M, M = L.take 258 := ⟨_, rfl⟩
  rw [← hM] at hlen2 hlen3 ha e1 e2
  rw [cells26] at hlen2
  obtain ⟨cl, hcl, hcw⟩ := list_ints (M.take 256) (fun i hi => by
    have h1 := ha i (by rw [hlen3] at hi; exact hi)
    rw [cells3, Nat.mul_one] at h1
    have hz1 : i < zs.length := by rw [hzl]; rw [hlen3] at hi; exact hi
    rw [List.getElem?_eq_getElem hz1] at h1
    obtain ⟨z, hz2, _, hz3⟩ := DataW.trod_int Try.underlying3 h1
    refine ⟨z, ?_, hz3⟩
    have h2 : ((M.take 256).drop i)[0]? = some (.int .i64 z) := by
      have := congrArg (fun l => l[0]?) hz2
      try dsimp only at this
      rw [List.getElem?_take_of_lt (by decide)] at this
      exact this
    rw [List.getElem?_drop, Nat.add_zero] at h2
    exact h2)
  have hcl2 : cl.length = 256 := by
    have := congrArg List.length hcl
    rw [List.length_map] at this
    omega
  have hMM : M = M.take 256 ++ M.drop 256 := (List.take_append_drop 256 M).symm
  rw [drop_one e1, drop_one e2, List.drop_eq_nil_of_le (by omega)] at hMM
  have hLL : L = L.take 258 ++ L.drop 258 := (List.take_append_drop 258 L).symm
  rw [drop_one e3, drop_one e4, drop_one e5, drop_one e6, drop_one e7, List.drop_eq_nil_of_le (by omega), ← hM] at hLL
  refine ⟨⟨cl, l1, l2, l3, l4, l5, l6, l7⟩, ⟨A1, c1, A2, c2, A3, c3, A4, c4, A5, c5, A6, c6, A7, c7⟩, ?_, ⟨⟨hcl2, C1, b1, C2, b2⟩, C3, b3, C4, b4, C5, b5, C6, b6, C7, b7⟩, hcw, ?_⟩
  · rw [tcells_eq]
    have h3 : cs.toList = _ := hcs.trans hLL
    rw [hMM, hcl] at h3
    rw [← Array.toArray_toList (xs := cs), h3]
    congr 1
    rw [List.append_assoc]
    rfl
  refine ⟨y0.1, y1.1, y2.1, x1.1, x2.1, x3.1, x4.1, x5.1, ?_, R1, R2, R3, R4, R5, R6, R7⟩
  have hx1 := (Prod.mk.inj hx).1
  have hy1 : x0.1 = _ := congrArg (·.1) hy
  rw [hx1]
  show DataW.agg [x0.1, x1.1, x2.1, x3.1, x4.1, x5.1] = _
  rw [hy1]
  rfl
theorem bytes3 : Try.prog.bytesOf 3 = 8 := by kernel_rfl
theorem bytes24 : Try.prog.bytesOf 24 = 24 := by kernel_rfl
theorem bytes38 : Try.prog.bytesOf 38 = 16 := by kernel_rfl
theorem bytes39 : Try.prog.bytesOf 39 = 24 := by kernel_rfl
section
variable {ts : List TypeId} {ds : List (DataW H)} {j : Nat} {d : DataW H}
theorem sized_row {l : List Int} (hsz : (DataW.weightsEach Try.prog ts ds).all (· ≤ reachBytes) = true) (hts : ts[j]? = some 24) (hds : ds[j]? = some d) (h : RowDat .i64 l d) : l.length * 8 ≤ 140737488351232 := by
  rcases h with ⟨rfl, rfl⟩ | ⟨s, rfl⟩
  · simp
  have h1 := sized_slice hsz hts hds Try.underlying24
  rw [bytes3, lits_length] at h1
  have h2 : reachBytes = 140737488351232 := rfl
  omega
theorem sized_lens {l : List (List S38)} (hsz : (DataW.weightsEach Try.prog ts ds).all (· ≤ reachBytes) = true) (hts : ts[j]? = some 27) (hds : ds[j]? = some d) (h : LensDat l d) : l.length * 24 ≤ 140737488351232 ∧ ∀ r ∈ l, r.length * 16 ≤ 140737488351232 := by
  have h2 : reachBytes = 140737488351232 := rfl
  rcases h with ⟨rfl, rfl⟩ | ⟨els, sp, rfl, hl, hj⟩
  · exact ⟨by simp, fun r hr => by cases hr⟩
  refine ⟨?_, fun r hr => ?_⟩
  · have h1 := sized_slice hsz hts hds Try.underlying27
    rw [bytes39] at h1
    omega
  obtain ⟨i, hi⟩ := List.mem_iff_getElem?.1 hr
  obtain ⟨z, hz, hd⟩ := hj i r hi
  rcases hd with ⟨rfl, rfl⟩ | ⟨es, s, rfl, hes⟩
  · simp
  have hm : (DataW.slice es s) ∈ els := List.mem_of_getElem? hz
  have h3 := List.all_eq_true.1 hsz _ (DataW.weights_mem_each hts hds ((es.length + s.length) * Try.prog.bytesOf 38) (by
    simp only [DataW.weights, Try.underlying27, List.mem_cons, List.mem_append]
    refine .inr (.inl (weightsAll_mem ?_ hm))
    simp [DataW.weights, Try.underlying39]))
  have h4 : (es.length + s.length) * Try.prog.bytesOf 38 ≤ reachBytes := by simpa using h3
  rw [bytes38] at h4
  omega
theorem sized_tables {T : Tab} (hsz : (DataW.weightsEach Try.prog ts ds).all (· ≤ reachBytes) = true) (hts : ts[j]? = some 29) (hds : ds[j]? = some d) (h : TabDat T d) (hc : T.cls.length = 256) (hw : ∀ k ∈ T.cls, (Lit.int .i64 k).wf = true) : TSmall T := by
  obtain ⟨dc, dn, dr, dt, da, dg, dl, ds_, rfl, R1, R2, R3, R4, R5, R6, R7⟩ := h
  have s1 : (DataW.weightsEach Try.prog [26, 24, 27, 23, 24, 24] [.agg [dc, dn, dr], dt, da, dg, dl, ds_]).all (· ≤ reachBytes) = true :=
    List.all_eq_true.2 (fun n hn => List.all_eq_true.1 hsz n (DataW.weights_mem_each hts hds n (by
      rw [DataW.weights, Try.underlying29]
      exact hn)))
  have s2 : (DataW.weightsEach Try.prog [22, 23, 24] [dc, dn, dr]).all (· ≤ reachBytes) = true :=
    List.all_eq_true.2 (fun n hn => List.all_eq_true.1 s1 n (DataW.weights_mem_each (j := 0) rfl rfl n (by
      rw [DataW.weights, Try.underlying26]
      exact hn)))
  have h1 := sized_rows s2 (j := 1) rfl rfl Try.underlying23 Try.underlying24 bytes24 bytes3 R1
  have h2 := sized_row s2 (j := 2) rfl rfl R2
  have h3 := sized_row s1 (j := 1) rfl rfl R3
  have h4 := sized_lens s1 (j := 2) rfl rfl R4
  have h5 := sized_rows s1 (j := 3) rfl rfl Try.underlying23 Try.underlying24 bytes24 bytes3 R5
  have h6 := sized_row s1 (j := 4) rfl rfl R6
  have h7 := sized_row s1 (j := 5) rfl rfl R7
  exact ⟨hc, hw, by omega, fun r hr => by have := h1.2 r hr; omega, by omega, by omega, by omega, fun r hr => by have := h4.2 r hr; omega, by omega, fun r hr => by have := h5.2 r hr; omega, by omega, by omega⟩
end
end Go.Proofs.Ytkeekganabafbaa.X
end
section
namespace Go.Proofs.Ytkeekganabafbaa.X
open Go.RowKit Go.Proofs.YtkeekganabafbaaW.PrintWords Go.Proofs.YtkeekganabafbaaW.PrintLast Go.Proofs.YtkeekganabafbaaW.PrintMore Go.Proofs.Ytkeekganabafbaa.Pure
attribute [local go_sem] max2_int min2_int max_two min_two max_three min_three max_four min_four
set_option linter.unusedVariables false
set_option linter.unusedSimpArgs false
theorem bytes_inj {X Y : Tab} (hX : X.cls.length = 256) (hY : Y.cls.length = 256) {b : List Int} (h1 : bytesI X = (b, 0)) (h2 : bytesI Y = (b, 0)) : X = Y := by
  have e1 := (parse_bytes X hX b h1).1
  have e2 := (parse_bytes Y hY b h2).1
  rw [e1] at e2
  exact (Prod.mk.inj e2).1
theorem bytes_len {X : Tab} {b : List Int} {e : Int} (h : bytesI X = (b, e)) : b.length ≤ 1000000 := by
  unfold bytesI at h
  split at h
  · unfold packI at h
    split at h
    · split at h
      · split at h
        · have h1 := (Prod.mk.inj h).1
          rw [← h1, sealI_length, packB_length]
          omega
        rw [← (Prod.mk.inj h).1]; simp
      rw [← (Prod.mk.inj h).1]; simp
    rw [← (Prod.mk.inj h).1]; simp
  rw [← (Prod.mk.inj h).1]; simp
set_option maxHeartbeats 16000000 in
set_option maxRecDepth 100000 in
theorem TablesSame_calls (X Y : Tab) (px py : TL) (w : World) (hX : TabR w X px) (hY : TabR w Y py) (sX : TSmall X) (sY : TSmall Y) :
    Calls Try.prog 3 #[.agg (tcells X px).toArray, .agg (tcells Y py).toArray] w fun e w' => e = .returned (.bool true) ∧ Below w.heap.size w w' := by
  have HX := Aside0.mk hX
  have HY := Aside0.mk hY
  have SX := Aside0.mk sX
  have SY := Aside0.mk sY
  have CX := Aside0.mk hX.cls
  have CY := Aside0.mk hY.cls
  obtain ⟨bx, ex, hbx_⟩ : ∃ b e, bytesI X = (b, e) := ⟨_, _, rfl⟩
  obtain ⟨by_, ey, hby_⟩ : ∃ b e, bytesI Y = (b, e) := ⟨_, _, rfl⟩
  have HBX := Aside0.mk hbx_
  have HBY := Aside0.mk hby_
  have LX := Aside0.mk (bytes_len hbx_)
  have LY := Aside0.mk (bytes_len hby_)
  clear hbx_ hby_ hX hY sX sY
  obtain ⟨r, hr_⟩ : ∃ r : Bool, (r = true ↔ X = Y) := by
    rcases Classical.em (X = Y) with h | h
    · exact ⟨true, fun _ => h, fun _ => rfl⟩
    exact ⟨false, fun h' => (by cases h'), fun h' => absurd h' h⟩
  have HR := Aside0.mk hr_
  have HE := Aside0.mk (show ex = 0 → ey = 0 → decide (bx = by_) = r from fun h1 h2 => by
    subst h1
    subst h2
    cases r with
    | true =>
      have h3 := HR.out.1 rfl
      subst h3
      have := HBX.out.symm.trans HBY.out
      exact decide_eq_true (Prod.mk.inj this).1
    | false =>
      refine decide_eq_false (fun h3 => ?_)
      subst h3
      have := HR.out.2 (bytes_inj CX.out CY.out HBX.out HBY.out)
      cases this)
  clear hr_
  go_enter Try.func3, Try.ntmps3
  go_upto_region 4 with (first | ((with_reducible refine gate_dst (N := 2) rfl ?_); refine box_event ?hg (N := 2) ?hd (cs := (tcells X px).toArray) (t := 29) ?hr ?_; (case hd => rfl); (case hg => rfl); (case hr => first | (go_simp; done) | (go_simp; rfl)); intro gx hg w1 hbx1 hb1; clear hg) | ((with_reducible refine gate_dst (N := 3) rfl ?_); refine box_event ?hg (N := 3) ?hd (cs := (tcells Y py).toArray) (t := 29) ?hr ?_; (case hd => rfl); (case hg => rfl); (case hr => first | (go_simp; done) | (go_simp; rfl)); intro gy hg w2 hby2 hb2; clear hg) | (go_at_call 9; refine (works_calls _).mono ?_; rintro e' w3 ⟨rfl, hb3⟩) | ((with_reducible refine gate_dst (N := 13) rfl ?_); (try (refine gate_guard (by rfl) ?_; dsimp only)); refine wpList_load_mid rfl 29 (.tmp 2) rfl gx 0 rfl (tcells X px) _ (TBlk.rangeT (show TBlk _ gx X px 29 from blk_below (blk_below hbx1 hb2) hb3)) Try.underlying29 rfl (by rw [tcells_length CX.out]; exact size29) ?_) | (go_at_call 10; refine (Bytes_calls X px _ (HX.out.below (below_step (below_step hb1 hb2) hb3)) SX.out.n SX.out.u SX.out.t).mono ?_; rintro e' w4 ⟨v4, rfl, hR4, hb4⟩; rw [HBX.out] at hR4; simp only [HBX.out]; obtain ⟨A4, c4, rfl⟩ := Kd.R_slice hR4; have HC4 := Aside0.mk (Kd.R_reads' hR4); clear hR4))
  have HB4 := Aside0.mk (below_step (below_step (below_step hb1 hb2) hb3) hb4)
  have HTX4 : TBlk w4 gx X px 29 := blk_below (blk_below (blk_below hbx1 hb2) hb3) hb4
  have HTY4 : TBlk w4 gy Y py 29 := blk_below (blk_below hby2 hb3) hb4
  clear hb1 hb2 hb3 hb4 hbx1 hby2
  go_upto_region 5 with (first | ((with_reducible refine gate_dst (N := 18) rfl ?_); (try (refine gate_guard (by rfl) ?_; dsimp only)); refine wpList_load_mid rfl 29 (.tmp 3) rfl gy 0 rfl (tcells Y py) _ (TBlk.rangeT HTY4) Try.underlying29 rfl (by rw [tcells_length CY.out]; exact size29) ?_) | (go_at_call 10; refine (Bytes_calls Y py _ (HY.out.below HB4.out) SY.out.n SY.out.u SY.out.t).mono ?_; rintro e' w5 ⟨v5, rfl, hR5, hb5⟩; rw [HBY.out] at hR5; simp only [HBY.out]; obtain ⟨A5, c5, rfl⟩ := Kd.R_slice hR5; have HC5 := Aside0.mk (Kd.R_reads' hR5); clear hR5))
  have HB5 := Aside0.mk (below_step HB4.out hb5)
  have HTX5 := Aside0.mk (show TBlk w5 gx X px 29 from blk_below HTX4 hb5)
  have HTY5 := Aside0.mk (show TBlk w5 gy Y py 29 from blk_below HTY4 hb5)
  have HC45 := Aside0.mk (Kd.C_below HC4.out.2.2 hb5)
  clear hb5 HTX4 HTY4
  go_upto_region 6 with (first | ((with_reducible refine gate_dst (N := 22) rfl ?_); (try (refine gate_guard (by rfl) ?_; dsimp only)); refine wpList_load_mid rfl 29 (.tmp 2) rfl gx 0 rfl (tcells X px) _ (TBlk.rangeT HTX5.out) Try.underlying29 rfl (by rw [tcells_length CX.out]; exact size29) ?_) | ((with_reducible refine gate_dst (N := 23) rfl ?_); (try (refine gate_guard (by rfl) ?_; dsimp only)); refine wpList_load_mid rfl 29 (.tmp 3) rfl gy 0 rfl (tcells Y py) _ (TBlk.rangeT HTY5.out) Try.underlying29 rfl (by rw [tcells_length CY.out]; exact size29) ?_) | (go_at_call 11; refine (Same_calls X Y px py _ (HX.out.below HB5.out) (HY.out.below HB5.out) SX.out SY.out).mono ?_; rintro e' w6 ⟨r6, rfl, hr6, hb6⟩))
  obtain rfl : r6 = r := by rcases r6 with _ | _ <;> rcases r with _ | _ <;> first | rfl | (have := hr6.trans HR.out.symm; simp at this)
  have HB6 := Aside0.mk hb6
  have HTX6 := Aside0.mk (show TBlk w6 gx X px 29 from blk_below HTX5.out hb6)
  have HTY6 := Aside0.mk (show TBlk w6 gy Y py 29 from blk_below HTY5.out hb6)
  clear hr6 hb6
  have hrr : ∀ r8 : Bool, (r8 = true ↔ Y = X) → r8 = r6 := fun r8 h8 => by
    have h9 : r8 = true ↔ r6 = true := ⟨fun h => HR.out.2 (h8.1 h).symm, fun h => h8.2 (HR.out.1 h).symm⟩
    rcases r8 with _ | _ <;> rcases r6 with _ | _ <;> first | rfl | (simp at h9)
  have HRR := Aside0.mk hrr
  clear hrr
  by_cases he : ex = 0
  · subst he
    by_cases hf : ey = 0
    · subst hf
      have HE2 := Aside0.mk (HE.out rfl rfl)
      cases r6
      all_goals
        go_wp2_with (first | ((with_reducible refine gate_dst (N := 25) rfl ?_); (try (refine gate_guard (by rfl) ?_; dsimp only)); refine wpList_load_mid rfl 29 (.tmp 2) rfl gx 0 rfl (tcells X px) _ (TBlk.rangeT HTX6.out) Try.underlying29 rfl (by rw [tcells_length CX.out]; exact size29) ?_) | ((with_reducible refine gate_dst (N := 26) rfl ?_); (try (refine gate_guard (by rfl) ?_; dsimp only)); refine wpList_load_mid rfl 29 (.tmp 2) rfl gx 0 rfl (tcells X px) _ (TBlk.rangeT HTX6.out) Try.underlying29 rfl (by rw [tcells_length CX.out]; exact size29) ?_) | (have g_ := hb7; clear g_; go_at_call 11; refine (Same_calls Y X py px _ (HY.out.below (below_step (below_step HB5.out HB6.out) hb7)) (HX.out.below (below_step (below_step HB5.out HB6.out) hb7)) SY.out SX.out).mono ?_; rintro e' w8 ⟨r8, rfl, hr8, hb8⟩; rw [HRR.out r8 hr8]; clear hr8) | (go_at_call 11; refine (Same_calls X X px px _ (HX.out.below (below_step HB5.out HB6.out)) (HX.out.below (below_step HB5.out HB6.out)) SX.out SX.out).mono ?_; rintro e' w7 ⟨r7, rfl, hr7, hb7⟩; obtain rfl : r7 = true := hr7.2 rfl; clear hr7) | ((with_reducible refine gate_dst (N := 30) rfl ?_); (try (refine gate_guard (by rfl) ?_; dsimp only)); refine wpList_load_mid rfl 29 (.tmp 3) rfl gy 0 rfl (tcells Y py) _ (TBlk.rangeT (show TBlk _ gy Y py 29 from blk_below HTY6.out hb7)) Try.underlying29 rfl (by rw [tcells_length CY.out]; exact size29) ?_) | ((with_reducible refine gate_dst (N := 31) rfl ?_); (try (refine gate_guard (by rfl) ?_; dsimp only)); refine wpList_load_mid rfl 29 (.tmp 2) rfl gx 0 rfl (tcells X px) _ (TBlk.rangeT (show TBlk _ gx X px 29 from blk_below HTX6.out hb7)) Try.underlying29 rfl (by rw [tcells_length CX.out]; exact size29) ?_) | (go_at_call 12; refine (eqb_n bx by_ bx.length by_.length A4 A5 c4 c5 _ rfl rfl (by have := LX.out; omega) (Kd.C_below HC45.out (below_step (below_step HB6.out hb7) hb8)) HC4.out.2.1 (Kd.C_below HC5.out.2.2 (below_step (below_step HB6.out hb7) hb8)) HC5.out.2.1).mono ?_; rintro e' w9 ⟨he9, hb9⟩; rw [HE2.out] at he9; subst he9))
        go_ret
        exact ⟨rfl, below_step (below_step (below_step (below_step HB5.out HB6.out) hb7) hb8) hb9⟩
    have f1 : (ey = 0) = False := eq_false hf
    have f2 : decide (ey = 0) = false := decide_eq_false hf
    have f3 : (ey == 0) = false := beq_eq_false_iff_ne.mpr hf
    cases r6
    all_goals
      go_wp2_with (first | ((with_reducible refine gate_dst (N := 25) rfl ?_); (try (refine gate_guard (by rfl) ?_; dsimp only)); refine wpList_load_mid rfl 29 (.tmp 2) rfl gx 0 rfl (tcells X px) _ (TBlk.rangeT HTX6.out) Try.underlying29 rfl (by rw [tcells_length CX.out]; exact size29) ?_) | ((with_reducible refine gate_dst (N := 26) rfl ?_); (try (refine gate_guard (by rfl) ?_; dsimp only)); refine wpList_load_mid rfl 29 (.tmp 2) rfl gx 0 rfl (tcells X px) _ (TBlk.rangeT HTX6.out) Try.underlying29 rfl (by rw [tcells_length CX.out]; exact size29) ?_) | (have g_ := hb7; clear g_; go_at_call 11; refine (Same_calls Y X py px _ (HY.out.below (below_step (below_step HB5.out HB6.out) hb7)) (HX.out.below (below_step (below_step HB5.out HB6.out) hb7)) SY.out SX.out).mono ?_; rintro e' w8 ⟨r8, rfl, hr8, hb8⟩; rw [HRR.out r8 hr8]; clear hr8) | (go_at_call 11; refine (Same_calls X X px px _ (HX.out.below (below_step HB5.out HB6.out)) (HX.out.below (below_step HB5.out HB6.out)) SX.out SX.out).mono ?_; rintro e' w7 ⟨r7, rfl, hr7, hb7⟩; obtain rfl : r7 = true := hr7.2 rfl; clear hr7) | ((with_reducible refine gate_dst (N := 30) rfl ?_); (try (refine gate_guard (by rfl) ?_; dsimp only)); refine wpList_load_mid rfl 29 (.tmp 3) rfl gy 0 rfl (tcells Y py) _ (TBlk.rangeT (show TBlk _ gy Y py 29 from blk_below HTY6.out hb7)) Try.underlying29 rfl (by rw [tcells_length CY.out]; exact size29) ?_) | ((with_reducible refine gate_dst (N := 31) rfl ?_); (try (refine gate_guard (by rfl) ?_; dsimp only)); refine wpList_load_mid rfl 29 (.tmp 2) rfl gx 0 rfl (tcells X px) _ (TBlk.rangeT (show TBlk _ gx X px 29 from blk_below HTX6.out hb7)) Try.underlying29 rfl (by rw [tcells_length CX.out]; exact size29) ?_) | (go_at_call 12; refine (eqb_n bx by_ bx.length by_.length A4 A5 c4 c5 _ rfl rfl (by have := LX.out; omega) (Kd.C_below HC45.out (below_step (below_step HB6.out hb7) hb8)) HC4.out.2.1 (Kd.C_below HC5.out.2.2 (below_step (below_step HB6.out hb7) hb8)) HC5.out.2.1).mono ?_; rintro e' w9 ⟨he9, hb9⟩; rw [HE2.out] at he9; subst he9))
      go_ret
      exact ⟨rfl, below_step (below_step (below_step HB5.out HB6.out) hb7) hb8⟩
  have f1 : (ex = 0) = False := eq_false he
  have f2 : decide (ex = 0) = false := decide_eq_false he
  have f3 : (ex == 0) = false := beq_eq_false_iff_ne.mpr he
  cases r6
  all_goals
    go_wp2_with (first | ((with_reducible refine gate_dst (N := 25) rfl ?_); (try (refine gate_guard (by rfl) ?_; dsimp only)); refine wpList_load_mid rfl 29 (.tmp 2) rfl gx 0 rfl (tcells X px) _ (TBlk.rangeT HTX6.out) Try.underlying29 rfl (by rw [tcells_length CX.out]; exact size29) ?_) | ((with_reducible refine gate_dst (N := 26) rfl ?_); (try (refine gate_guard (by rfl) ?_; dsimp only)); refine wpList_load_mid rfl 29 (.tmp 2) rfl gx 0 rfl (tcells X px) _ (TBlk.rangeT HTX6.out) Try.underlying29 rfl (by rw [tcells_length CX.out]; exact size29) ?_) | (have g_ := hb7; clear g_; go_at_call 11; refine (Same_calls Y X py px _ (HY.out.below (below_step (below_step HB5.out HB6.out) hb7)) (HX.out.below (below_step (below_step HB5.out HB6.out) hb7)) SY.out SX.out).mono ?_; rintro e' w8 ⟨r8, rfl, hr8, hb8⟩; rw [HRR.out r8 hr8]; clear hr8) | (go_at_call 11; refine (Same_calls X X px px _ (HX.out.below (below_step HB5.out HB6.out)) (HX.out.below (below_step HB5.out HB6.out)) SX.out SX.out).mono ?_; rintro e' w7 ⟨r7, rfl, hr7, hb7⟩; obtain rfl : r7 = true := hr7.2 rfl; clear hr7) | ((with_reducible refine gate_dst (N := 30) rfl ?_); (try (refine gate_guard (by rfl) ?_; dsimp only)); refine wpList_load_mid rfl 29 (.tmp 3) rfl gy 0 rfl (tcells Y py) _ (TBlk.rangeT (show TBlk _ gy Y py 29 from blk_below HTY6.out hb7)) Try.underlying29 rfl (by rw [tcells_length CY.out]; exact size29) ?_) | ((with_reducible refine gate_dst (N := 31) rfl ?_); (try (refine gate_guard (by rfl) ?_; dsimp only)); refine wpList_load_mid rfl 29 (.tmp 2) rfl gx 0 rfl (tcells X px) _ (TBlk.rangeT (show TBlk _ gx X px 29 from blk_below HTX6.out hb7)) Try.underlying29 rfl (by rw [tcells_length CX.out]; exact size29) ?_) | (go_at_call 12; refine (eqb_n bx by_ bx.length by_.length A4 A5 c4 c5 _ rfl rfl (by have := LX.out; omega) (Kd.C_below HC45.out (below_step (below_step HB6.out hb7) hb8)) HC4.out.2.1 (Kd.C_below HC5.out.2.2 (below_step (below_step HB6.out hb7) hb8)) HC5.out.2.1).mono ?_; rintro e' w9 ⟨he9, hb9⟩; rw [HE2.out] at he9; subst he9))
    go_ret
    exact ⟨rfl, below_step (below_step (below_step HB5.out HB6.out) hb7) hb8⟩
def incunablelaw22_TablesSame.f (k : Nat) (t0 t1 : Tab) : Option Bool := some true
theorem incunablelaw22_TablesSame.calls (k : Nat) (pl0 : TL) (t0 : Tab) (pl1 : TL) (t1 : Tab) (r : Bool) (w : World) (hr0 : TabR w t0 pl0 ∧ TSmall t0) (hr1 : TabR w t1 pl1 ∧ TSmall t1) (h : incunablelaw22_TablesSame.f k t0 t1 = some r) :
    Calls Try.prog 3 #[.agg (tcells t0 pl0).toArray, .agg (tcells t1 pl1).toArray] w fun e w' => e = .returned (.bool r) ∧ Below w.heap.size w w' := by
  injection h with h
  subst h
  exact TablesSame_calls t0 t1 pl0 pl1 w hr0.1 hr1.1 hr0.2 hr1.2
end Go.Proofs.Ytkeekganabafbaa.X
end
section
namespace Go.Proofs.Ytkeekganabafbaa.X
open Go.RowKit Go.Proofs.YtkeekganabafbaaW.PrintWords Go.Proofs.YtkeekganabafbaaW.PrintLast Go.Proofs.YtkeekganabafbaaW.PrintMore Go.Proofs.Ytkeekganabafbaa.Pure
attribute [local go_sem] max2_int min2_int max_two min_two max_three min_three max_four min_four
set_option linter.unusedVariables false
set_option linter.unusedSimpArgs false
theorem T0_small : TSmall T0 := ⟨T0_cls, fun k hk => by rw [List.eq_of_mem_replicate hk]; decide, by decide, (fun r hr => by cases hr), by decide, by decide, by decide, (fun r hr => by cases hr), by decide, (fun r hr => by cases hr), by decide, by decide⟩
theorem may_small {T : Tab} (h : mayB T = true) (hc : T.cls.length = 256) : TSmall T := by
  have M := may_parts h
  have D := dfa_parts M.dfa
  have n2 := D.n2
  have u := D.u
  have t := M.t
  have s2 := M.s2
  have g := M.g
  have p2 := M.p2
  have z := M.z
  refine ⟨hc, fun k hk => ?_, by omega, fun r hr => ?_, by omega, by omega, by omega, fun r hr => ?_, by omega, fun r hr => ?_, by omega, by omega⟩
  · have h1 := D.cls k hk
    have h2 := next_w D
    have : (-9223372036854775808 : Int) ≤ k ∧ k < 9223372036854775808 := by omega
    show (decide (IntKind.i64.min ≤ k) && decide (k ≤ IntKind.i64.max)) = true
    rw [Bool.and_eq_true, decide_eq_true_eq, decide_eq_true_eq]
    exact ⟨by show (-9223372036854775808 : Int) ≤ k; omega, by show k ≤ (9223372036854775807 : Int); omega⟩
  · have := (D.row r hr).2.1; omega
  · have h1 := may_row M r hr
    have := M.t2
    omega
  have h1 := may_goto M r hr
  have := M.n2
  omega
def okA (l : List Int) : Bool := l.all (fun x => decide (0 ≤ x) && decide (x < 256))
theorem okA_BI {l : List Int} (h : okA l = true) : BI l := BI_of l h
def incunablelaw22_TablesAgain.f (k : Nat) (l0 : List Int) : Option Bool := if okA l0 = true ∧ l0.length ≤ 9223372036854775800 then some true else none
set_option maxHeartbeats 16000000 in
set_option maxRecDepth 100000 in
theorem incunablelaw22_TablesAgain.calls (k : Nat) (A0 : Option Addr) (c0 : Nat) (l0 : List Int) (r : Bool) (w : World) (hr0 : Kd.C (Kd.int .u8) w A0 l0.length l0) (hc0 : l0.length ≤ c0) (h : incunablelaw22_TablesAgain.f k l0 = some r) :
    Calls Try.prog 7 #[.slice A0 l0.length c0] w fun e w' => e = .returned (.bool r) ∧ Below w.heap.size w w' := by
  unfold incunablelaw22_TablesAgain.f at h
  by_cases hq : okA l0 = true ∧ l0.length ≤ 9223372036854775800
  · rw [if_pos hq] at h
    injection h with h
    subst h
    have HBI := Aside0.mk (okA_BI hq.1)
    have HLEN := Aside0.mk hq.2
    have HR0 := Aside0.mk hr0
    have HC0 := Aside0.mk hc0
    obtain ⟨T, e, hpe⟩ : ∃ T e, parseI l0 = (T, e) := ⟨_, _, rfl⟩
    have HPA := Aside0.mk hpe
    clear hq hr0 hc0 hpe
    go_enter Try.func7, Try.ntmps7
    go_upto_region 4 with (first | (go_at_call 9; refine (works_calls _).mono ?_; rintro e' w1 ⟨rfl, hb1⟩) | (go_at_call 17; refine (Parse_calls l0 A0 l0.length c0 _ rfl HLEN.out HBI.out (Kd.C_below HR0.out hb1) HC0.out).mono ?_; rintro e' w2 ⟨p, rfl, hcy, hty, hb2⟩; rw [HPA.out] at hcy hty; simp only [HPA.out]) | ((with_reducible refine gate_dst (N := 3) rfl ?_); refine box_event ?hg (N := 3) ?hd (cs := (tcells T0 P0).toArray) (t := 29) ?hr ?_; (case hd => rfl); (case hg => rfl); (case hr => rw [← zc29]; simp [execOp, go_sem]); intro b3 hg w3 hTB3 hbe3; have hz3 : w2.heap.size ≤ b3 := Nat.le_of_eq hg.symm; clear hg) | (refine wpList_store_row rfl 29 (.tmp 3) (.tmp 12) rfl b3 (tcells T p).toArray rfl rfl 29 (tcells T0 P0).toArray hTB3 (sizeT hcy) ((tsz T0_cls).trans (tsz hcy).symm) (tcells_one _ _) ?_))
    have hTB4 : TBlk (w3.setRow b3 (tcells T p).toArray) b3 T p 29 := setRow_heap w3 b3 _ _ 29 (0, 0) hTB3
    have hb24 : Below w2.heap.size w2 (w3.setRow b3 (tcells T p).toArray) := keep_below hbe3 (row_kb w3 b3 _) hz3
    generalize w3.setRow b3 (tcells T p).toArray = w4 at hTB4 hb24 ⊢
    have HTB4 := Aside0.mk hTB4
    have HTY4 := Aside0.mk (hty.tab.below hb24)
    have HB4 := Aside0.mk (below_step (below_step hb1 hb2) hb24)
    have HCY := Aside0.mk hcy
    clear hTB3 hbe3 hz3 hTB4 hb24 hty hb1 hb2 hcy
    by_cases he : e = 0
    · subst he
      have hpp := bytes_parse l0 HBI.out (by rw [HPA.out])
      rw [HPA.out] at hpp
      have HBY := Aside0.mk hpp.1
      have HMB := Aside0.mk (show (if mayB T = true then (0 : Int) else 220) = 0 from if_pos hpp.2.1)
      have HSM := Aside0.mk (may_small hpp.2.1 hpp.2.2)
      clear hpp
      go_wp2_with (first | ((with_reducible refine gate_dst (N := 20) rfl ?_); refine wpList_load_mid rfl 29 (.tmp 3) rfl b3 0 rfl (tcells T p) _ (TBlk.rangeT HTB4.out) Try.underlying29 rfl (by rw [tcells_length HCY.out]; exact size29) ?_) | (go_at_call 10; refine (Bytes_calls T p _ HTY4.out HSM.out.n HSM.out.u HSM.out.t).mono ?_; rintro e' w5 ⟨v5, rfl, hR5, hb5⟩; rw [HBY.out] at hR5; simp only [HBY.out]; obtain ⟨A5, c5, rfl⟩ := Kd.R_slice hR5; have HC5 := Aside0.mk (Kd.R_reads' hR5); have hTB5 : TBlk w5 b3 T p 29 := blk_below HTB4.out hb5) | ((with_reducible refine gate_dst (N := 24) rfl ?_); refine wpList_load_mid rfl 29 (.tmp 3) rfl b3 0 rfl (tcells T p) _ (TBlk.rangeT hTB5) Try.underlying29 rfl (by rw [tcells_length HCY.out]; exact size29) ?_) | (go_at_call 13; refine (Check_calls T p _ (HTY4.out.below hb5) HSM.out.n HSM.out.u HSM.out.t).mono ?_; rintro e' w6 ⟨he6, hb6⟩; rw [HMB.out] at he6; subst he6) | (go_at_call 12; have hdd : decide (l0 = l0) = true := decide_eq_true rfl; refine (eqb_n l0 l0 l0.length l0.length A0 A5 c0 c5 _ rfl rfl HLEN.out (Kd.C_below HR0.out (below_step (below_step HB4.out hb5) hb6)) HC0.out (Kd.C_below HC5.out.2.2 hb6) HC5.out.2.1).mono ?_; rintro e' w7 ⟨he7, hb7⟩; rw [hdd] at he7; subst he7; clear hdd))
      go_ret
      exact ⟨rfl, below_step (below_step (below_step HB4.out hb5) hb6) hb7⟩
    have hT0 : T = T0 := by
      have h1 := HPA.out
      unfold parseI at h1
      split at h1
      · split at h1
        · exact absurd (Prod.mk.inj h1).2.symm he
        exact (Prod.mk.inj h1).1.symm
      exact (Prod.mk.inj h1).1.symm
    subst hT0
    have f1 : (e = 0) = False := eq_false he
    have f2 : decide (e = 0) = false := decide_eq_false he
    have f3 : (e == 0) = false := beq_eq_false_iff_ne.mpr he
    go_wp2_with (first | ((with_reducible refine gate_dst (N := 16) rfl ?_); refine wpList_load_mid rfl 29 (.tmp 3) rfl b3 0 rfl (tcells T0 p) _ (TBlk.rangeT HTB4.out) Try.underlying29 rfl (by rw [tcells_length HCY.out]; exact size29) ?_) | (go_at_call 11; rw [zc29]; refine (Same_calls T0 T0 p P0 _ HTY4.out (T0_tab _ (fun _ => True)).tab T0_small T0_small).mono ?_; rintro e' w5 ⟨r5, rfl, hr5, hb5⟩; obtain rfl : r5 = true := hr5.2 rfl; clear hr5))
    go_ret
    exact ⟨rfl, below_step HB4.out hb5⟩
  rw [if_neg hq] at h
  cases h
end Go.Proofs.Ytkeekganabafbaa.X
end
section
namespace Go.Proofs.Ytkeekganabafbaa.Pure
set_option linter.unusedVariables false
set_option linter.unusedSimpArgs false
open Go.RowKit Go.Proofs.Ytkeekganabafbaa.X Go.Proofs.YtkeekganabafbaaW.PrintWords Go.Proofs.YtkeekganabafbaaW.PrintLast Go.Proofs.YtkeekganabafbaaW.PrintMore
theorem seal_sum (x : List Int) (hx : BI x) : onI 0 (x ++ fourI (onI 0 x)) = 558161692 := by
  rw [← onI_append 0 x _ (by omega) (by omega) hx]
  have h := onI0_range x hx
  generalize onI 0 x = s at h
  unfold onI
  rw [nat_fourI s h.1, Crc.residue s.toNat (by omega)]
  rfl
theorem ok_sum (b : List Int) (hB : BI b) (h : (unpackI b).2.2 = 0) : onI 0 b = 558161692 := by
  obtain ⟨_, h1, _⟩ := unpackI_cases b h
  have h2 := seal_sum (b.take (b.length - 4)) (BI_take hB _)
  rw [← h1, List.take_append_drop] at h2
  exact h2
theorem turn_bad (b : List Int) (hB : BI b) (hb : (unpackI b).2.2 = 0) (q s m : Nat) (hq : q < b.length) (hs : s < 8) (hm : m < 4294967296) (hlen : m * 2 ^ s < 2 ^ (8 * (b.length - q))) :
    (unpackI (b.take q ++ layI (m * 2 ^ s) (b.drop q))).2.2 = 0 ↔ m = 0 := by
  have hBd := BI_drop hB q
  have hBt := BI_take hB q
  have hc := BI_append hBt (layI_BI (m * 2 ^ s) _ hBd)
  constructor
  · intro h
    have h1 := ok_sum _ hc h
    have h2 := ok_sum b hB hb
    have key := burst_iff 0 (nat (b.take q)) (nat (b.drop q)) (nat_B hBt) (nat_B hBd) (by omega) m s hm hs (by simp [nat]; omega)
    rw [← nat_layI _ _ hBd, ← nat_append, ← nat_append, List.take_append_drop] at key
    have h3 : Crc.on 0 (nat (b.take q ++ layI (m * 2 ^ s) (b.drop q))) = Crc.on 0 (nat b) := by
      have := h1.trans h2.symm
      unfold onI at this
      exact Int.ofNat_inj.1 this
    have h4 := nat_inj _ _ hc hB (key.1 h3)
    have h5 : layI (m * 2 ^ s) (b.drop q) = b.drop q := by
      have h6 := h4.trans (List.take_append_drop q b).symm
      exact List.append_cancel_left h6
    have h7 := layI_self (b.drop q) _ hBd (by rw [List.length_drop]; exact hlen) h5
    rcases Nat.mul_eq_zero.1 h7 with h8 | h8
    · exact h8
    exact absurd h8 (Nat.pos_iff_ne_zero.1 (Nat.two_pow_pos s))
  rintro rfl
  rw [Nat.zero_mul, layI_zero _ hBd, List.take_append_drop]
  exact hb
theorem mod_succ_add (n i : Nat) : n % 2 ^ (i + 1) = n % 2 ^ i + 2 ^ i * (n / 2 ^ i % 2) := by rw [Nat.pow_succ, Nat.mod_mul]
theorem rd_right (l r : List Int) (j : Nat) : rd (l ++ r) ((l.length + j : Nat) : Int) = rd r (j : Int) := by
  unfold rd
  rw [Int.toNat_natCast, Int.toNat_natCast, List.getD_eq_getElem?_getD, List.getD_eq_getElem?_getD, List.getElem?_append_right (by omega), Nat.add_sub_cancel_left]
theorem set_right (l r : List Int) (j : Nat) (x : Int) : (l ++ r).set (l.length + j) x = l ++ r.set j x := by
  rw [List.set_append_right _ _ (by omega), Nat.add_sub_cancel_left]
theorem shl_u8 (r : Nat) (hr : r < 8) : shl .u8 1 (r : Int) = ((2 ^ r : Nat) : Int) := by
  have h : 2 ^ r ≤ 2 ^ 7 := Nat.pow_le_pow_right (by omega) (by omega)
  unfold shl
  rw [show min (r : Int).toNat IntKind.u8.bits = r by simp [IntKind.bits]; omega, show (1 : Int) * 2 ^ r = ((2 ^ r : Nat) : Int) by simp]
  generalize 2 ^ r = z at h ⊢
  rw [IntKind.wrap_u8]
  omega
theorem bit_of (n i : Nat) (hn : n < 4294967296) (hi : i < 32) : Go.bits .and .u32 (shr .u32 (n : Int) (i : Int)) 1 = ((n / 2 ^ i % 2 : Nat) : Int) := by
  unfold shr
  rw [show min (i : Int).toNat IntKind.u32.bits = i by simp [IntKind.bits]; omega, show (n : Int) / 2 ^ i = ((n / 2 ^ i : Nat) : Int) by simp]
  have h : n / 2 ^ i < 4294967296 := Nat.lt_of_le_of_lt (Nat.div_le_self _ _) hn
  rw [show (1 : Int) = ((1 : Nat) : Int) from rfl, u32_and_nat _ 1 h (by omega), Nat.and_one_is_mod]
theorem lay_lt (n i s L q : Nat) (h : i + s ≤ 8 * (L - q)) : n % 2 ^ i * 2 ^ s < 2 ^ (8 * (L - q)) := by
  have h1 : n % 2 ^ i < 2 ^ i := Nat.mod_lt _ (Nat.two_pow_pos i)
  have h2 : n % 2 ^ i * 2 ^ s < 2 ^ i * 2 ^ s := Nat.mul_lt_mul_of_pos_right h1 (Nat.two_pow_pos s)
  rw [← Nat.pow_add] at h2
  exact Nat.lt_of_lt_of_le h2 (Nat.pow_le_pow_right (by omega) h)
def turnL (b : List Int) (p m : Nat) : List Int := b.take (p / 8) ++ layI (m * 2 ^ (p % 8)) (b.drop (p / 8))
theorem turnL_length (b : List Int) (p m : Nat) : (turnL b p m).length = b.length := by
  rw [turnL, List.length_append, layI_length, List.length_take, List.length_drop]; omega
theorem turnL_BI {b : List Int} (h : BI b) (p m : Nat) : BI (turnL b p m) := BI_append (BI_take h _) (layI_BI _ _ (BI_drop h _))
theorem turnL_zero {b : List Int} (h : BI b) (p : Nat) : turnL b p 0 = b := by
  rw [turnL, Nat.zero_mul, layI_zero _ (BI_drop h _), List.take_append_drop]
theorem turn_set (b : List Int) (hB : BI b) (n p i : Nat) (hlt : p + i < 8 * b.length) (h1 : n / 2 ^ i % 2 = 1) :
    (turnL b p (n % 2 ^ i)).set ((p + i) / 8) (Go.bits .xor .u8 (rd (turnL b p (n % 2 ^ i)) (((p + i) / 8 : Nat) : Int)) ((2 ^ ((p + i) % 8) : Nat) : Int)) = turnL b p (n % 2 ^ (i + 1)) := by
  have hBd := BI_drop hB (p / 8)
  have htl : (b.take (p / 8)).length = p / 8 := by rw [List.length_take]; omega
  unfold turnL
  rw [lay_succ n i (p % 8), if_pos h1, layI_xor _ _ _ hBd]
  have hl2 := layI_BI (n % 2 ^ i * 2 ^ (p % 8)) _ hBd
  have hll := layI_length (n % 2 ^ i * 2 ^ (p % 8)) (b.drop (p / 8))
  rw [List.length_drop] at hll
  generalize layI (n % 2 ^ i * 2 ^ (p % 8)) (b.drop (p / 8)) = D at hl2 hll
  rw [layI_pow D (i + p % 8) hl2 (by omega)]
  have e1 : (p + i) / 8 = (b.take (p / 8)).length + (i + p % 8) / 8 := by rw [htl]; omega
  rw [e1, rd_right, set_right, show (p + i) % 8 = (i + p % 8) % 8 by omega]
theorem turn_keep (n i : Nat) (h1 : ¬ n / 2 ^ i % 2 = 1) : n % 2 ^ (i + 1) = n % 2 ^ i := by
  have := mod_succ_add n i
  rw [show n / 2 ^ i % 2 = 0 by omega] at this
  omega
theorem turn_some (n i : Nat) (h1 : n / 2 ^ i % 2 = 1) : n % 2 ^ (i + 1) ≠ 0 := by
  have := mod_succ_add n i
  rw [h1] at this
  have h2 := Nat.two_pow_pos i
  omega
theorem turned_iff (b : List Int) (hB : BI b) (hb : (unpackI b).2.2 = 0) (p m : Nat) (hp : p < 8 * b.length) (hm : m < 4294967296) (hlen : m * 2 ^ (p % 8) < 2 ^ (8 * (b.length - p / 8))) : (unpackI (turnL b p m)).2.2 = 0 ↔ m = 0 :=
  turn_bad b hB hb (p / 8) (p % 8) m (by omega) (by omega) hm hlen
end Go.Proofs.Ytkeekganabafbaa.Pure
end
section
namespace Go.Proofs.Ytkeekganabafbaa.X
open Go.RowKit Go.Proofs.YtkeekganabafbaaW.PrintWords Go.Proofs.YtkeekganabafbaaW.PrintLast Go.Proofs.YtkeekganabafbaaW.PrintMore
attribute [local go_sem] max2_int min2_int max_two min_two max_three min_three max_four min_four   -- for this text's walks alone
set_option linter.unusedVariables false
set_option linter.unusedSimpArgs false
def incunableref00_Bring.f (a0 : Int) (a1 : Int) : Option (Int) := if a1 ≤ 0 then (some 0) else (if a1 = 0 then (none) else (if (Int.tmod a0 a1) < 0 then (some (wrap64 ((Int.tmod a0 a1) + a1))) else (some (Int.tmod a0 a1))))
set_option maxHeartbeats 8000000 in
set_option maxRecDepth 100000 in
theorem incunableref00_Bring.calls (a0 : Int) (a1 : Int) (r : Int) (w : World) (h : incunableref00_Bring.f a0 a1 = some r) :
    Calls Try.prog 21 #[.int .i64 a0, .int .i64 a1] w fun e w' => e = .returned (.int .i64 r) ∧ Drawn0 w w' := by
  have H : (if a1 ≤ 0 then (some 0) else (if a1 = 0 then (none) else (if (Int.tmod a0 a1) < 0 then (some (wrap64 ((Int.tmod a0 a1) + a1))) else (some (Int.tmod a0 a1))))) = some r := h
  clear h
  by_cases c3 : a1 ≤ 0
  · rw [if_pos c3] at H
    have c3b0 : decide (a1 ≤ 0) = true := decide_eq_true c3
    clear c3
    obtain rfl := Option.some.inj H
    go_enter Try.func21, Try.ntmps21
    go_wp2
    go_ret
    exact ⟨by first | rfl | (simp; done) | (simp [*]; done), by repeat (first | exact Drawn0.refl _ | apply Drawn0.step)⟩
  rw [if_neg c3] at H
  have c3b0 : decide (a1 ≤ 0) = false := decide_eq_false c3
  clear c3
  by_cases c4 : a1 = 0
  · rw [if_pos c4] at H
    exact absurd H (by simp)
  rw [if_neg c4] at H
  have c4b0 : (a1 == 0) = false := beq_eq_false_iff_ne.mpr c4
  have c4b1 : (a1 != 0) = true := bne_iff_ne.mpr c4
  by_cases c5 : (Int.tmod a0 a1) < 0
  · rw [if_pos c5] at H
    have c5b0 : decide ((Int.tmod a0 a1) < 0) = true := decide_eq_true c5
    clear c5
    obtain rfl := Option.some.inj H
    go_enter Try.func21, Try.ntmps21
    go_wp2
    go_ret
    exact ⟨by first | rfl | (simp; done) | (simp [*]; done), by repeat (first | exact Drawn0.refl _ | apply Drawn0.step)⟩
  rw [if_neg c5] at H
  have c5b0 : decide ((Int.tmod a0 a1) < 0) = false := decide_eq_false c5
  clear c5
  obtain rfl := Option.some.inj H
  go_enter Try.func21, Try.ntmps21
  go_wp2
  go_ret
  exact ⟨by first | rfl | (simp; done) | (simp [*]; done), by repeat (first | exact Drawn0.refl _ | apply Drawn0.step)⟩
end Go.Proofs.Ytkeekganabafbaa.X
end
section
namespace Go.Proofs.Ytkeekganabafbaa.X
open Go.RowKit Go.Proofs.YtkeekganabafbaaW.PrintWords Go.Proofs.YtkeekganabafbaaW.PrintLast Go.Proofs.YtkeekganabafbaaW.PrintMore Go.Proofs.Ytkeekganabafbaa.Pure
attribute [local go_sem] max2_int min2_int max_two min_two max_three min_three max_four min_four
set_option linter.unusedVariables false
set_option linter.unusedSimpArgs false
theorem bring_some (a n : Int) (h0 : -9223372036854775808 ≤ a) (h1 : a < 9223372036854775808) (hn : 0 < n) (hn1 : n < 9223372036854775808) : ∃ r, incunableref00_Bring.f a n = some r ∧ 0 ≤ r ∧ r < n := by
  unfold incunableref00_Bring.f
  rw [if_neg (by omega), if_neg (by omega)]
  have h2 : -n < Int.tmod a n ∧ Int.tmod a n < n := by
    have := Int.natAbs_tmod a n
    have h3 : Int.natAbs a % Int.natAbs n < Int.natAbs n := Nat.mod_lt _ (by omega)
    omega
  by_cases h : Int.tmod a n < 0
  · rw [if_pos h, w64 (by omega) (by omega)]
    exact ⟨_, rfl, by omega, by omega⟩
  rw [if_neg h]
  exact ⟨_, rfl, by omega, by omega⟩
theorem bytes_ok {X : Tab} {b : List Int} (h : bytesI X = (b, 0)) : BI b ∧ 11 ≤ b.length ∧ (unpackI b).2.2 = 0 ∧ mayB X = true := by
  unfold bytesI at h
  by_cases hm : mayB X = true
  · rw [if_pos hm] at h
    obtain ⟨e1, e2, e3, e4⟩ := packI_ok 1 (secL X) b h
    have h2 := (unpack_packI 1 (secL X) b h (secL_OK (fun _ _ => trivial))).1
    refine ⟨?_, ?_, by rw [h2], hm⟩
    · rw [e1]
      exact BI_append (packB_BI 1 (secL X) (secL_OK (fun _ _ => trivial))) (fourI_BI _)
    rw [e1, sealI_length, packB_length]; omega
  rw [if_neg hm] at h
  exact absurd (Prod.mk.inj h).2 (by decide)
theorem may_ne {X : Tab} (h : mayB X = true) : X ≠ T0 := by
  rintro rfl
  have := (dfa_parts (may_parts h).dfa).n1
  exact absurd this (by decide)
theorem parse_bad (t : List Int) (h : ¬ (unpackI t).2.2 = 0) : parseI t = (T0, (unpackI t).2.2) := by
  unfold parseI
  rw [if_neg h]
set_option maxHeartbeats 16000000 in
set_option maxRecDepth 100000 in
theorem TablesTurned_calls (X : Tab) (px : TL) (a1 a2 : Int) (w : World) (hX : TabR w X px) (sX : TSmall X) (ha1 : -9223372036854775808 ≤ a1 ∧ a1 < 9223372036854775808) (ha2 : 0 ≤ a2 ∧ a2 < 4294967296) :
    Calls Try.prog 8 #[.agg (tcells X px).toArray, .int .i64 a1, .int .u32 a2] w fun e w' => e = .returned (.bool true) ∧ Below w.heap.size w w' := by
  obtain ⟨n, rfl⟩ := Int.eq_ofNat_of_zero_le ha2.1
  have hn32 : n < 4294967296 := by have := ha2.2; omega
  have HX := Aside0.mk hX
  have SX := Aside0.mk sX
  have CX := Aside0.mk hX.cls
  have HA1 := Aside0.mk ha1
  have HN32 := Aside0.mk hn32
  obtain ⟨b, e, hbx_⟩ : ∃ b e, bytesI X = (b, e) := ⟨_, _, rfl⟩
  have HBX := Aside0.mk hbx_
  clear hbx_ hX sX ha1 ha2 hn32
  go_enter Try.func8, Try.ntmps8
  go_upto_region 4 with (first | ((with_reducible refine gate_dst (N := 3) rfl ?_); refine box_event ?hg (N := 3) ?hd (cs := (tcells X px).toArray) (t := 29) ?hr ?_; (case hd => rfl); (case hg => rfl); (case hr => first | (go_simp; done) | (go_simp; rfl)); intro gx hg w1 hbx1 hb1; clear hg) | (go_at_call 9; refine (works_calls _).mono ?_; rintro e' w3 ⟨rfl, hb3⟩) | ((with_reducible refine gate_dst (N := 16) rfl ?_); refine wpList_load_mid rfl 29 (.tmp 3) rfl gx 0 rfl (tcells X px) _ (TBlk.rangeT (show TBlk w3 gx X px 29 from blk_below hbx1 hb3)) Try.underlying29 rfl (by rw [tcells_length CX.out]; exact size29) ?_) | (go_at_call 10; refine (Bytes_calls X px _ (HX.out.below (below_step hb1 hb3)) SX.out.n SX.out.u SX.out.t).mono ?_; rintro e' w4 ⟨v4, rfl, hR4, hb4⟩; rw [HBX.out] at hR4; simp only [HBX.out]))
  have HB3 := Aside0.mk (below_step hb1 hb3)
  have HTX3 := Aside0.mk (show TBlk w3 gx X px 29 from blk_below hbx1 hb3)
  by_cases he : e = 0
  rotate_left
  · have f1 : (e = 0) = False := eq_false he
    have f2 : decide (e = 0) = false := decide_eq_false he
    have f3 : (e == 0) = false := beq_eq_false_iff_ne.mpr he
    go_wp2_with (fail)
    go_ret
    exact ⟨rfl, below_step HB3.out hb4⟩
  subst he
  obtain ⟨hbB, h11, hub, hmay⟩ := bytes_ok HBX.out
  have LX := Aside0.mk (bytes_len HBX.out)
  have HUB := Aside0.mk hub
  have HMAY := Aside0.mk hmay
  obtain ⟨Af, cf, e1⟩ := Kd.R_slice hR4
  subst e1
  have hMpos : 0 < b.length := by omega
  obtain ⟨gf, of_, ef, _⟩ := Kd.R_form hR4 hMpos
  have hAf : Af = some ⟨gf, 0, none⟩ := by injection ef
  clear ef
  subst hAf
  obtain ⟨M, hM⟩ : ∃ M, M = b.length := ⟨_, rfl⟩
  rw [← hM] at hR4 ⊢
  have hML : M ≤ 1000000 := by have := LX.out; omega
  have hM11 : 11 ≤ M := by omega
  obtain ⟨p', hp', hp0, hp1⟩ := bring_some a1 (8 * (M : Int)) HA1.out.1 HA1.out.2 (by omega) (by omega)
  obtain ⟨p, rfl⟩ := Int.eq_ofNat_of_zero_le hp0
  have hw8 : IntKind.i64.wrap (8 * (M : Int)) = 8 * (M : Int) := by simp only [i64_w]; unfold wrap64; omega
  have hM0 : ((M : Int) == 0) = false := by rw [beq_eq_false_iff_ne]; omega
  have hM1 : (((M : Nat) : Int) = 0) = False := eq_false (by omega)
  have hM2 : (M = 0) = False := eq_false (by omega)
  have HM := Aside0.mk hM11
  have HMM := Aside0.mk hML
  have HF := Aside0.mk hM.symm
  have HP := Aside0.mk hp1
  clear hM hML hM11 h11 hub hmay hp0 hp1
  go_upto_region 9 with (first | (go_at_call 21; refine (incunableref00_Bring.calls a1 _ _ _ hp').mono ?_; rintro e' w5 ⟨rfl, hd5⟩; have hR2 := Kd.R_below hR4 hd5.below; have hb2 := below_step hb4 hd5.below))
  have HR2 := Aside0.mk hR2
  have HB2 := Aside0.mk hb2
  clear hR4 hb4 hR2 hb2
  go_wp2
  go_loopg [9, 10] 33 (fun kq v9 v10 w' => ∃ (i : Nat), v9 = .bool (decide (n % 2 ^ i ≠ 0)) ∧ v10 = .int .i64 (i : Int) ∧ Aside0 (kq + i = 33) ∧ Aside0 (p + i ≤ 8 * M) ∧ Aside0 (i ≤ 32) ∧
    Aside0 ((Kd.int .u8).R 5 w' w3.heap.size (fun _ => True) (.slice (some ⟨gf, 0, none⟩) M cf) (turnL b p (n % 2 ^ i))) ∧ Aside0 (Below w3.heap.size w3 w'))
  case atStart => exact ⟨0, (by simp [Nat.mod_one]), rfl, ⟨rfl⟩, ⟨by have := HP.out; omega⟩, ⟨by omega⟩, ⟨by rw [Nat.pow_zero, Nat.mod_one, turnL_zero hbB]; exact HR2.out⟩, HB2⟩
  obtain ⟨i, rfl, rfl, hk, hpi, hi32, hR, hB⟩ := hrel
  clear HR2 HB2
  have hkk := hk.out
  have hpp := HP.out
  have hMM := HMM.out
  have hm2 := HM.out
  have HTL := Aside0.mk (show (turnL b p (n % 2 ^ i)).length = M from by rw [turnL_length, HF.out])
  have hwpi : IntKind.i64.wrap ((p : Int) + (i : Int)) = (p : Int) + (i : Int) := by simp only [i64_w]; unfold wrap64; omega
  have hwi : IntKind.i64.wrap ((i : Int) + 1) = (i : Int) + 1 := by simp only [i64_w]; unfold wrap64; omega
  clear hpp hMM hm2
  by_cases hc : i < 32 ∧ p + i < 8 * M
  · have d1' : decide ((i : Int) < 32) = true := decide_eq_true (by omega)
    have d2' : decide ((p : Int) + (i : Int) < 8 * (M : Int)) = true := decide_eq_true (by omega)
    have hb := bit_of n i HN32.out hc.1
    have hx0 : (0 : Int) ≤ (i : Int) := by omega
    have HJ : Int.tdiv ((p : Int) + (i : Int)) 8 = (((p + i) / 8 : Nat) : Int) := by rw [Int.tdiv_eq_ediv_of_nonneg (by omega)]; omega
    have HK : Int.tmod ((p : Int) + (i : Int)) 8 = (((p + i) % 8 : Nat) : Int) := by rw [Int.tmod_eq_emod_of_nonneg (by omega)]; omega
    have hsh := shl_u8 ((p + i) % 8) (by omega)
    have hset := turn_set b hbB n p i (by rw [HF.out]; omega)
    have HC := Aside0.mk hc
    have hJM : (((p + i) / 8 : Nat) : Int) < (M : Int) := by omega
    have hJ0 : (0 : Int) ≤ (((p + i) / 8 : Nat) : Int) := by omega
    have hK0 : (0 : Int) ≤ (((p + i) % 8 : Nat) : Int) := by omega
    have hK8 : (((p + i) % 8 : Nat) : Int) ≤ 8 := by omega
    have hx32 : (i : Int) ≤ 32 := by omega
    have hJw' : IntKind.i64.wrap (((p + i) / 8 : Nat) : Int) = (((p + i) / 8 : Nat) : Int) := by have := HMM.out; have := HM.out; simp only [i64_w]; unfold wrap64; omega
    have hrelT := turn_some n i
    have hrelK := turn_keep n i
    have HTr : n / 2 ^ i % 2 = 1 → (decide (n % 2 ^ (i + 1) ≠ 0)) = true := fun h => decide_eq_true (hrelT h)
    have hbit : n / 2 ^ i % 2 = 1 ∨ ¬ n / 2 ^ i % 2 = 1 := Classical.em _
    obtain ⟨ti, hti⟩ : ∃ ti, ti = decide (n % 2 ^ i ≠ 0) := ⟨_, rfl⟩
    have HTI := Aside0.mk hti
    have hset' : n / 2 ^ i % 2 = 1 → (turnL b p (n % 2 ^ i)).set ((((p + i) / 8 : Nat) : Int)).toNat (Go.bits .xor .u8 (rd (turnL b p (n % 2 ^ i)) (((p + i) / 8 : Nat) : Int)) ((2 ^ ((p + i) % 8) : Nat) : Int)) = turnL b p (n % 2 ^ (i + 1)) := fun h => by rw [Int.toNat_natCast]; exact hset h
    generalize hS : turnL b p (n % 2 ^ i) = T at hR HTL hset'
    obtain ⟨sz, hsz⟩ : ∃ sz : Int, sz = ((2 ^ ((p + i) % 8) : Nat) : Int) := ⟨_, rfl⟩
    rw [← hsz] at hsh hset'
    obtain ⟨J, hJ⟩ : ∃ J : Int, J = (((p + i) / 8 : Nat) : Int) := ⟨_, rfl⟩
    rw [← hJ] at HJ hset' hJM hJ0 hJw'
    obtain ⟨K, hK⟩ : ∃ K : Int, K = (((p + i) % 8 : Nat) : Int) := ⟨_, rfl⟩
    rw [← hK] at HK hsh hK0 hK8
    obtain ⟨xi, hxi⟩ : ∃ xi : Int, xi = (i : Int) := ⟨_, rfl⟩
    obtain ⟨pz, hpz⟩ : ∃ pz : Int, pz = (p : Int) := ⟨_, rfl⟩
    have HXI := Aside0.mk hxi
    have HPZ := Aside0.mk hpz
    rw [← hxi] at HJ HK hx0 d1' d2' hb hwpi hwi hx32
    rw [← hpz] at HJ HK d2' hwpi
    rw [← hxi, ← hpz, ← hti]
    obtain ⟨y, hy⟩ : ∃ y : Int, shr .u32 (n : Int) xi = y := ⟨_, rfl⟩
    rw [hy] at hb
    have hy_ : ((n : Int) / 2 ^ min xi.toNat 32) = y := hy
    have hyz : xi ≤ 32 → ((n : Int) / 2 ^ xi.toNat) = y := shr_small hy
    have hs_ : (IntKind.u8.wrap (1 * 2 ^ min K.toNat 8)) = sz := hsh
    have hsz2 : K ≤ 8 → (IntKind.u8.wrap (1 * 2 ^ K.toNat)) = sz := shl_small hsh
    clear hxi hpz hti hsz hJ hK hc hy hsh hset
    have px := eq_true hx0
    have pk := eq_true hK0
    have d3 : decide (0 ≤ xi) = true := decide_eq_true hx0
    have d4 : decide (0 ≤ K) = true := decide_eq_true hK0
    rcases hbit with h1 | h1
    · have hb1 : (Go.bits .and .u32 y 1 == 1) = true := by rw [hb, h1]; rfl
      clear hb
      have hxc : wr.drew.cell? ⟨gf, J.toNat, none⟩ = some (.int .u8 (rd T J)) := (Kd.R_celln (0 : Int) (Kd.R_drew hR.out) J hJ0 hJM).1
      have hfc := (Kd.R_celln (0 : Int) (Kd.R_drew hR.out) J hJ0 hJM).2
      have pJ := eq_true hJ0
      have qJ := eq_true hJM
      go_wp2
      refine start_ (n := 20) (S := fun w' => w'.cell? ⟨gf, J.toNat, none⟩ = some (.int .u8 (rd T J))) (ds := [19]) #[false, false, false, false, false, false, false, false, false, false, false, false, false, false, false, false, false, false, false, false] (by kernel_rfl) rfl rfl (hxc) (fun hHeld => ?_)
      generalize HW : wr.drew = w5 at hHeld hfc ⊢
      have hR5 : (Kd.int .u8).R 5 w5 w3.heap.size (fun _ => True) (.slice (some ⟨gf, 0, none⟩) M cf) T := by rw [← HW]; exact Kd.R_drew hR.out
      have hB5 : Below w3.heap.size w3 w5 := by rw [← HW]; exact below_drew1 hB.out
      clear hxc
      refine pure_ (i := 0) (N := some 48) (v := ?_) (a' := ?_) #[true, false, false, false, false, false, false, false, false, false, false, false, false, false, false, false, false, false, false, false] rfl rfl (by kernel_rfl) (fun _ _ _ h => h) (Or.inl ⟨by rfl, ?_⟩) ?_ ?_
      rotate_left
      · intro w'
        go_simp
        with_reducible rfl
      rotate_left
      · simp only [Act.put, List.setIfInBounds_toArray, List.set_cons_zero, List.set_cons_succ, i64_w, i32_w]
        rfl
      refine pure_ (i := 1) (N := some 49) (v := ?_) (a' := ?_) #[true, true, false, false, false, false, false, false, false, false, false, false, false, false, false, false, false, false, false, false] rfl rfl (by kernel_rfl) (fun _ _ _ h => h) (Or.inl ⟨by rfl, ?_⟩) ?_ ?_
      rotate_left
      · intro w'
        go_simp
        with_reducible rfl
      rotate_left
      · simp only [Act.put, List.setIfInBounds_toArray, List.set_cons_zero, List.set_cons_succ, i64_w, i32_w]
        rfl
      refine pure_ (i := 2) (N := some 50) (v := ?_) (a' := ?_) #[true, true, true, false, false, false, false, false, false, false, false, false, false, false, false, false, false, false, false, false] rfl rfl (by kernel_rfl) (fun _ _ _ h => h) (Or.inl ⟨by rfl, ?_⟩) ?_ ?_
      rotate_left
      · intro w'
        go_simp
        with_reducible rfl
      rotate_left
      · simp only [Act.put, List.setIfInBounds_toArray, List.set_cons_zero, List.set_cons_succ, i64_w, i32_w]
        rfl
      refine pure_ (i := 3) (N := some 51) (v := ?_) (a' := ?_) #[true, true, true, true, false, false, false, false, false, false, false, false, false, false, false, false, false, false, false, false] rfl rfl (by kernel_rfl) (fun _ _ _ h => h) (Or.inl ⟨by rfl, ?_⟩) ?_ ?_
      rotate_left
      · intro w'
        go_simp
        with_reducible rfl
      rotate_left
      · simp only [Act.put, List.setIfInBounds_toArray, List.set_cons_zero, List.set_cons_succ, i64_w, i32_w]
        rfl
      refine pure_ (i := 4) (N := some 52) (v := ?_) (a' := ?_) #[true, true, true, true, true, false, false, false, false, false, false, false, false, false, false, false, false, false, false, false] rfl rfl (by kernel_rfl) (fun _ _ _ h => h) (Or.inl ⟨by rfl, ?_⟩) ?_ ?_
      rotate_left
      · intro w'
        go_simp
        with_reducible rfl
      rotate_left
      · simp only [Act.put, List.setIfInBounds_toArray, List.set_cons_zero, List.set_cons_succ, i64_w, i32_w]
        rfl
      refine pure_ (i := 5) (N := some 53) (v := ?_) (a' := ?_) #[true, true, true, true, true, true, false, false, false, false, false, false, false, false, false, false, false, false, false, false] rfl rfl (by kernel_rfl) (fun _ _ _ h => h) (Or.inl ⟨by rfl, ?_⟩) ?_ ?_
      rotate_left
      · intro w'
        go_simp
        with_reducible rfl
      rotate_left
      · simp only [Act.put, List.setIfInBounds_toArray, List.set_cons_zero, List.set_cons_succ, i64_w, i32_w]
        rfl
      refine pure_ (i := 6) (N := some 54) (v := ?_) (a' := ?_) #[true, true, true, true, true, true, true, false, false, false, false, false, false, false, false, false, false, false, false, false] rfl rfl (by kernel_rfl) (fun _ _ _ h => h) (Or.inl ⟨by rfl, ?_⟩) ?_ ?_
      rotate_left
      · intro w'
        go_simp
        with_reducible rfl
      rotate_left
      · simp only [Act.put, List.setIfInBounds_toArray, List.set_cons_zero, List.set_cons_succ, i64_w, i32_w]
        rfl
      refine pure_ (i := 7) (N := some 55) (v := ?_) (a' := ?_) #[true, true, true, true, true, true, true, true, false, false, false, false, false, false, false, false, false, false, false, false] rfl rfl (by kernel_rfl) (fun _ _ _ h => h) (Or.inl ⟨by rfl, ?_⟩) ?_ ?_
      rotate_left
      · intro w'
        go_simp
        with_reducible rfl
      rotate_left
      · simp only [Act.put, List.setIfInBounds_toArray, List.set_cons_zero, List.set_cons_succ, i64_w, i32_w]
        rfl
      refine pure_ (i := 8) (N := some 56) (v := ?_) (a' := ?_) #[true, true, true, true, true, true, true, true, true, false, false, false, false, false, false, false, false, false, false, false] rfl rfl (by kernel_rfl) (fun _ _ _ h => h) (Or.inl ⟨by rfl, ?_⟩) ?_ ?_
      rotate_left
      · intro w'
        go_simp
        with_reducible rfl
      rotate_left
      · simp only [Act.put, List.setIfInBounds_toArray, List.set_cons_zero, List.set_cons_succ, i64_w, i32_w]
        rfl
      refine pure_ (i := 9) (N := some 57) (v := ?_) (a' := ?_) #[true, true, true, true, true, true, true, true, true, true, false, false, false, false, false, false, false, false, false, false] rfl rfl (by kernel_rfl) (fun _ _ _ h => h) (Or.inl ⟨by rfl, ?_⟩) ?_ ?_
      rotate_left
      · intro w'
        go_simp
        with_reducible rfl
      rotate_left
      · simp only [Act.put, List.setIfInBounds_toArray, List.set_cons_zero, List.set_cons_succ, i64_w, i32_w]
        rfl
      refine pure_ (i := 10) (N := some 58) (v := ?_) (a' := ?_) #[true, true, true, true, true, true, true, true, true, true, true, false, false, false, false, false, false, false, false, false] rfl rfl (by kernel_rfl) (fun _ _ _ h => h) (Or.inl ⟨by rfl, ?_⟩) ?_ ?_
      rotate_left
      · intro w'
        go_simp
        with_reducible rfl
      rotate_left
      · simp only [Act.put, List.setIfInBounds_toArray, List.set_cons_zero, List.set_cons_succ, i64_w, i32_w]
        rfl
      refine pure_ (i := 12) (N := some 60) (v := ?_) (a' := ?_) #[true, true, true, true, true, true, true, true, true, true, true, false, true, false, false, false, false, false, false, false] rfl rfl (by kernel_rfl) (fun _ _ _ h => h) (Or.inl ⟨by rfl, ?_⟩) ?_ ?_
      rotate_left
      · intro w'
        go_simp
        with_reducible rfl
      rotate_left
      · simp only [Act.put, List.setIfInBounds_toArray, List.set_cons_zero, List.set_cons_succ, i64_w, i32_w]
        rfl
      refine pure_ (i := 13) (N := some 61) (v := ?_) (a' := ?_) #[true, true, true, true, true, true, true, true, true, true, true, false, true, true, false, false, false, false, false, false] rfl rfl (by kernel_rfl) (fun _ _ _ h => h) (Or.inl ⟨by rfl, ?_⟩) ?_ ?_
      rotate_left
      · intro w'
        go_simp
        with_reducible rfl
      rotate_left
      · simp only [Act.put, List.setIfInBounds_toArray, List.set_cons_zero, List.set_cons_succ, i64_w, i32_w]
        rfl
      refine pure_ (i := 14) (N := some 62) (v := ?_) (a' := ?_) #[true, true, true, true, true, true, true, true, true, true, true, false, true, true, true, false, false, false, false, false] rfl rfl (by kernel_rfl) (fun _ _ _ h => h) (Or.inl ⟨by rfl, ?_⟩) ?_ ?_
      rotate_left
      · intro w'
        go_simp
        with_reducible rfl
      rotate_left
      · simp only [Act.put, List.setIfInBounds_toArray, List.set_cons_zero, List.set_cons_succ, i64_w, i32_w]
        rfl
      refine pure_ (i := 15) (N := some 63) (v := ?_) (a' := ?_) #[true, true, true, true, true, true, true, true, true, true, true, false, true, true, true, true, false, false, false, false] rfl rfl (by kernel_rfl) (fun _ _ _ h => h) (Or.inl ⟨by rfl, ?_⟩) ?_ ?_
      rotate_left
      · intro w'
        go_simp
        with_reducible rfl
      rotate_left
      · simp only [Act.put, List.setIfInBounds_toArray, List.set_cons_zero, List.set_cons_succ, i64_w, i32_w]
        rfl
      refine pure_ (i := 16) (N := some 64) (v := ?_) (a' := ?_) #[true, true, true, true, true, true, true, true, true, true, true, false, true, true, true, true, true, false, false, false] rfl rfl (by kernel_rfl) (fun _ _ _ h => h) (Or.inl ⟨by rfl, ?_⟩) ?_ ?_
      rotate_left
      · intro w'
        go_simp
        with_reducible rfl
      rotate_left
      · simp only [Act.put, List.setIfInBounds_toArray, List.set_cons_zero, List.set_cons_succ, i64_w, i32_w]
        rfl
      refine take_ (i := 11) (N := some 59) (v := ?_) (a' := ?_) #[true, true, true, true, true, true, true, true, true, true, true, true, true, true, true, true, true, false, false, false] rfl rfl (by kernel_rfl) (fun _ _ _ h => h) (Or.inl ⟨by rfl, ?_⟩) hHeld ?_ ?_
      rotate_left
      · intro w' s0
        go_simp
        with_reducible rfl
      rotate_left
      · simp only [Act.put, List.setIfInBounds_toArray, List.set_cons_zero, List.set_cons_succ, i64_w, i32_w]
        rfl
      refine pure_ (i := 17) (N := some 65) (v := ?_) (a' := ?_) #[true, true, true, true, true, true, true, true, true, true, true, true, true, true, true, true, true, true, false, false] rfl rfl (by kernel_rfl) (fun _ _ _ h => h) (Or.inl ⟨by rfl, ?_⟩) ?_ ?_
      rotate_left
      · intro w'
        go_simp
        with_reducible rfl
      rotate_left
      · simp only [Act.put, List.setIfInBounds_toArray, List.set_cons_zero, List.set_cons_succ, i64_w, i32_w]
        rfl
      refine pure_ (i := 18) (N := some 66) (v := ?_) (a' := ?_) #[true, true, true, true, true, true, true, true, true, true, true, true, true, true, true, true, true, true, true, false] rfl rfl (by kernel_rfl) (fun _ _ _ h => h) (Or.inl ⟨by rfl, ?_⟩) ?_ ?_
      rotate_left
      · intro w'
        go_simp
        with_reducible rfl
      rotate_left
      · simp only [Act.put, List.setIfInBounds_toArray, List.set_cons_zero, List.set_cons_succ, i64_w, i32_w]
        rfl
      refine last_ (i := 19) (N := none) #[true, true, true, true, true, true, true, true, true, true, true, true, true, true, true, true, true, true, true, true] rfl rfl (by kernel_rfl) (by decide) (fun K hK => ?_)
      refine skip_ (w1 := ?_) (by rfl) rfl ?_ ?_
      rotate_left
      · (go_simp; rfl)
      refine hK.out _ _ ?_
      clear hK K
      refine done_ (by kernel_rfl) ?_
      go_wp2
      have hP := Kd.R_putn hR5 J (Go.bits .xor .u8 (rd T J) sz)
      rw [hset' h1] at hP
      have e8 : (2 ^ K.toNat % 256 : Int) = sz := by have h8 := hsz2 hK8; rw [IntKind.wrap_u8, Int.one_mul] at h8; exact h8
      rw [← e8] at hP
      obtain rfl := HPZ.out
      obtain rfl := HXI.out
      go_roundg (gk - 1)
      case measure => omega
      case rel => exact ⟨i + 1, by rw [HTr h1], rfl, ⟨by omega⟩, ⟨by have := HC.out.2; omega⟩, ⟨by have := HC.out.1; omega⟩, ⟨hP⟩, ⟨hB5.setCell (Kd.R_base hR5 gf (by simp [Value.ownBlock])) _⟩⟩
    have hb1 : (Go.bits .and .u32 y 1 == 1) = false := by rw [hb, beq_eq_false_iff_ne]; omega
    clear hb
    go_wp2
    obtain rfl := HPZ.out
    obtain rfl := HXI.out
    go_roundg (gk - 1)
    case measure => omega
    case rel => exact ⟨i + 1, by rw [hrelK h1, HTI.out], rfl, ⟨by omega⟩, ⟨by have := HC.out.2; omega⟩, ⟨by have := HC.out.1; omega⟩, ⟨by rw [hrelK h1, hS]; exact hR.out⟩, hB⟩
  have d12 : (decide ((i : Int) < 32) = true ∧ decide ((p : Int) + (i : Int) < 8 * (M : Int)) = false) ∨ decide ((i : Int) < 32) = false := by
    by_cases h1 : i < 32
    · exact .inl ⟨decide_eq_true (by omega), decide_eq_false (fun h2 => hc ⟨h1, by omega⟩)⟩
    exact .inr (decide_eq_false (by omega))
  have hTB := turnL_BI hbB p (n % 2 ^ i)
  have h32 : n % 2 ^ i < 4294967296 := Nat.lt_of_lt_of_le (Nat.mod_lt _ (Nat.two_pow_pos i)) (show 2 ^ i ≤ 2 ^ 32 from Nat.pow_le_pow_right (by omega) hi32.out)
  have hlay := lay_lt n i (p % 8) b.length (p / 8) (by rw [HF.out]; have := hpi.out; have := HP.out; omega)
  have hiff := turned_iff b hbB HUB.out p (n % 2 ^ i) (by rw [HF.out]; have := HP.out; omega) h32 hlay
  have hsame : n % 2 ^ i = 0 → turnL b p (n % 2 ^ i) = b := fun h => by rw [h, turnL_zero hbB]
  have hcM : M ≤ cf ∧ CB wr (some ⟨gf, 0, none⟩) M (turnL b p (n % 2 ^ i)) := by
    have h := Kd.R_reads' hR.out
    have h2 := h.2.2
    rw [← h.1] at h2
    exact ⟨h.2.1, h2⟩
  obtain ⟨ti, hti⟩ : ∃ ti, ti = decide (n % 2 ^ i ≠ 0) := ⟨_, rfl⟩
  rw [← hti]
  obtain ⟨Y, e, hQ⟩ : ∃ Y e, parseI (turnL b p (n % 2 ^ i)) = (Y, e) := ⟨_, _, rfl⟩
  have hQx : (e == 0) = !ti ∧ (Y = X ∧ ti = false ∨ Y = T0 ∧ ti = true) := by
    by_cases h6 : n % 2 ^ i = 0
    · have h5 : ti = false := by rw [hti]; exact decide_eq_false (fun h7 => h7 h6)
      have h8 := (parse_bytes X CX.out b HBX.out).1
      rw [hsame h6, h8] at hQ
      injection hQ with e1 e2
      exact ⟨by rw [← e2, h5]; rfl, .inl ⟨e1.symm, h5⟩⟩
    have h5 : ti = true := by rw [hti]; exact decide_eq_true h6
    have h8 := parse_bad _ (fun h9 => h6 (hiff.1 h9))
    rw [h8] at hQ
    injection hQ with e1 e2
    refine ⟨?_, .inr ⟨e1.symm, h5⟩⟩
    rw [h5, ← e2]
    exact beq_eq_false_iff_ne.mpr (fun h9 => h6 (hiff.1 h9))
  clear hti hlay h32 hc hiff hsame
  have HT := Aside0.mk hTB
  have HC := Aside0.mk hcM
  have HQ := Aside0.mk hQ
  have HML := Aside0.mk (show M ≤ 9223372036854775800 from by have := HMM.out; omega)
  clear hQ hcM hTB
  have hee := hQx.1
  have HQX := Aside0.mk hQx.2
  clear hQx
  generalize turnL b p (n % 2 ^ i) = T at HT HC HQ HTL hR
  have HB5 := Aside0.mk (below_step HB3.out hB.out)
  have HTX5 := Aside0.mk (show TBlk wr gx X px 29 from blk_below HTX3.out hB.out)
  rcases d12 with ⟨d1, d2⟩ | d1
  all_goals
    go_upto_region 17 with (first | (go_at_call 17; refine (Parse_calls T (some ⟨gf, 0, none⟩) M cf _ HTL.out HML.out HT.out HC.out.2 HC.out.1).mono ?_; rintro e' w6 ⟨py, rfl, hcy, hty, hb6⟩; rw [HQ.out] at hcy hty; simp only [HQ.out]) | ((with_reducible refine gate_dst (N := 11) rfl ?_); refine box_event ?hg (N := 11) ?hd (cs := (tcells T0 P0).toArray) (t := 29) ?hr ?_; (case hd => rfl); (case hg => rfl); (case hr => rw [← zc29]; simp [execOp, go_sem]); intro b3 hg w7 hTB3 hbe3; have hz3 : w6.heap.size ≤ b3 := Nat.le_of_eq hg.symm; clear hg) | (refine wpList_store_row rfl 29 (.tmp 11) (.tmp 70) rfl b3 (tcells Y py).toArray rfl rfl 29 (tcells T0 P0).toArray hTB3 (sizeT hcy) ((tsz T0_cls).trans (tsz hcy).symm) (tcells_one _ _) ?_))
    have hTB4 : TBlk (w7.setRow b3 (tcells Y py).toArray) b3 Y py 29 := setRow_heap w7 b3 _ _ 29 (0, 0) hTB3
    have hb24 : Below w6.heap.size w6 (w7.setRow b3 (tcells Y py).toArray) := keep_below hbe3 (row_kb w7 b3 _) hz3
    generalize w7.setRow b3 (tcells Y py).toArray = w8 at hTB4 hb24 ⊢
    have HTB4 := Aside0.mk hTB4
    have HTX4 := Aside0.mk (show TBlk w8 gx X px 29 from blk_below (blk_below HTX5.out hb6) hb24)
    have HTY4 := Aside0.mk (hty.tab.below hb24)
    have HB4 := Aside0.mk (below_step (below_step HB5.out hb6) hb24)
    have HCY := Aside0.mk hcy
    clear hTB3 hbe3 hz3 hTB4 hb24 hty hb6 hcy
    rcases HQX.out with ⟨h1, h2⟩ | ⟨h1, h2⟩
    · subst h2
      subst h1
      obtain rfl : e = 0 := by simpa using hee
      clear hee
      go_wp2_with (first | ((with_reducible refine gate_dst (N := 80) rfl ?_); (try (refine gate_guard (by rfl) ?_; dsimp only)); refine wpList_load_mid rfl 29 (.tmp 3) rfl gx 0 rfl (tcells Y px) _ (TBlk.rangeT HTX4.out) Try.underlying29 rfl (by rw [tcells_length HCY.out]; exact size29) ?_) | ((with_reducible refine gate_dst (N := 81) rfl ?_); (try (refine gate_guard (by rfl) ?_; dsimp only)); refine wpList_load_mid rfl 29 (.tmp 11) rfl b3 0 rfl (tcells Y py) _ (TBlk.rangeT HTB4.out) Try.underlying29 rfl (by rw [tcells_length HCY.out]; exact size29) ?_) | (go_at_call 11; refine (Same_calls Y Y px py _ (HX.out.below HB4.out) HTY4.out SX.out SX.out).mono ?_; rintro e' w9 ⟨r5, rfl, hr5, hb9⟩; obtain rfl : r5 = true := hr5.2 rfl; clear hr5))
      go_ret
      exact ⟨rfl, below_step HB4.out hb9⟩
    subst h2
    subst h1
    have f3 : (e == 0) = false := hee
    have f4 := beq_eq_false_iff_ne.mp f3
    have f1 : (e = 0) = False := eq_false f4
    have f2 : decide (e = 0) = false := decide_eq_false f4
    clear hee
    go_wp2_with (first | ((with_reducible refine gate_dst (N := 80) rfl ?_); (try (refine gate_guard (by rfl) ?_; dsimp only)); refine wpList_load_mid rfl 29 (.tmp 3) rfl gx 0 rfl (tcells X px) _ (TBlk.rangeT HTX4.out) Try.underlying29 rfl (by rw [tcells_length CX.out]; exact size29) ?_) | ((with_reducible refine gate_dst (N := 81) rfl ?_); (try (refine gate_guard (by rfl) ?_; dsimp only)); refine wpList_load_mid rfl 29 (.tmp 11) rfl b3 0 rfl (tcells T0 py) _ (TBlk.rangeT HTB4.out) Try.underlying29 rfl (by rw [tcells_length HCY.out]; exact size29) ?_) | (go_at_call 11; refine (Same_calls X T0 px py _ (HX.out.below HB4.out) HTY4.out SX.out T0_small).mono ?_; rintro e' w9 ⟨r5, rfl, hr5, hb9⟩; obtain rfl : r5 = false := (by cases r5; rfl; exact absurd (hr5.1 rfl) (may_ne HMAY.out)); clear hr5))
    go_ret
    exact ⟨rfl, below_step HB4.out hb9⟩
def incunablelaw22_TablesTurned.f (k : Nat) (t0 : Tab) (a1 a2 : Int) : Option Bool := if (-9223372036854775808 ≤ a1 ∧ a1 < 9223372036854775808) ∧ (0 ≤ a2 ∧ a2 < 4294967296) then some true else none
theorem incunablelaw22_TablesTurned.calls (k : Nat) (pl0 : TL) (t0 : Tab) (a1 a2 : Int) (r : Bool) (w : World) (hr0 : TabR w t0 pl0 ∧ TSmall t0) (h : incunablelaw22_TablesTurned.f k t0 a1 a2 = some r) :
    Calls Try.prog 8 #[.agg (tcells t0 pl0).toArray, .int .i64 a1, .int .u32 a2] w fun e w' => e = .returned (.bool r) ∧ Below w.heap.size w w' := by
  unfold incunablelaw22_TablesTurned.f at h
  split at h
  · rename_i hq
    injection h with h
    subst h
    exact TablesTurned_calls t0 pl0 a1 a2 w hr0.1 hr0.2 hq.1 hq.2
  cases h
end Go.Proofs.Ytkeekganabafbaa.X
end
