/-
Arguments of the statements' rows: a slice of sections (a tag, a row of bytes), opened: what is read, what it weighs.
-/
import Derived.Test.YtpmikaoheaefiaaXx0
import Derived.Test.YtpmikaoheaefiaaXRows2
import Derived.Deep.SlicePairs
namespace Go.Proofs.Ytpmikaoheaefiaa.X
open Go.ChangeShapes Go.WideShapes Go.Proofs.YtpmikaoheaefiaaW.PrintWords Go.Proofs.YtpmikaoheaefiaaW.Rows
set_option linter.unusedVariables false
variable {H : Type} {enc : TypeId × Value → H} {P : Program} {w : World} {base : Nat} {held : Bool}

def SecsDat (l : List S33) (d : DataW H) : Prop :=
  (d = .nil ∧ l = []) ∨ ∃ els sp, d = .slice els sp ∧ els.length = l.length ∧ ∀ (j : Nat) (s : S33), l[j]? = some s → ∃ z0 z1, els[j]? = some (.agg [z0, z1]) ∧ RowDat .u8 s.f1 z1

theorem open_secs {t e q : TypeId} {f0 f1 : Field} {a : Option Addr} {len cap : Nat} {d : DataW H} {ps : List MemPlace} (ht : P.underlying t = some (.slice e)) (he : P.underlying e = some (.struct #[f0, f1]))
    (ce : P.cellsOf e = 2) (o0 : f0.offset = 0) (o1 : f1.offset = 1) (c0 : P.cellsOf f0.type = 1) (c1 : P.cellsOf f1.type = 1) (hi : P.underlying f0.type = some (.int .i64)) (hq : P.underlying f1.type = some (.slice q)) (hu : P.underlying q = some (.int .u8)) (cq : P.cellsOf q = 1)
    (h : DataW.Trod enc P w base (fun _ => true) held t (.slice a len cap) d ps) :
    ∃ l : List S33, len = l.length ∧ Kd.C k33 w a l.length l ∧ l.length ≤ cap ∧ l.length ≤ maxLen ∧ (∀ s ∈ l, (Lit.int .i64 s.f0).wf = true) ∧ (∀ s ∈ l, ∀ x ∈ s.f1, (Lit.int .u8 x).wf = true) ∧ SecsDat l d := by
  obtain ⟨fuel, hf⟩ := h
  rcases Deep.open_slice_pairs ht he ce o0 o1 c0 c1 hf with ⟨hcs, hx⟩ | ⟨ad, len', cap', m, n, V0, V1, D0, D1, P0, P1, hcs, hb, hl, hm, hmm, hx, hrow⟩
  · simp [Value.cells] at hcs
    obtain ⟨rfl, rfl, rfl⟩ := hcs
    obtain ⟨hx, _⟩ := Prod.mk.inj hx
    exact ⟨[], rfl, ⟨rfl, by decide, fun h => absurd h (by decide)⟩, Nat.zero_le _, Nat.zero_le _, (fun s hs => by cases hs), (fun s hs => by cases hs), Or.inl ⟨hx, rfl⟩⟩
  · simp [Value.cells] at hcs
    obtain ⟨rfl, rfl, rfl⟩ := hcs
    obtain ⟨hx, _⟩ := Prod.mk.inj hx
    simp only [if_true] at hmm
    subst hmm
    have each : ∀ r, r < len → ∃ y : S33, V0 r = .int .i64 y.f0 ∧ (Lit.int .i64 y.f0).wf = true ∧ (∀ x ∈ y.f1, (Lit.int .u8 x).wf = true) ∧ RowDat .u8 y.f1 (D1 r) ∧
        ∃ A C, V1 r = .slice A y.f1.length C ∧ y.f1.length ≤ C ∧ (Kd.int .u8).C w A y.f1.length y.f1 := by
      intro r hr
      obtain ⟨_, _, h3, h4⟩ := hrow r (by omega)
      obtain ⟨z, hz, _, hzw⟩ := DataW.trod_int hi h3
      have hz' : V0 r = .int .i64 z := by simpa using hz
      rcases open_ints hq hu cq h4 with ⟨hcs, hy⟩ | ⟨a', len', cap', zs, hcs, hb', hl', hm', hzl, hy, hcell, hwz⟩
      · simp only [Prod.mk.injEq] at hy
        exact ⟨⟨z, []⟩, hz', hzw, (fun x hx => by cases hx), .inl ⟨hy.1, rfl⟩, none, 0, by simpa using hcs, Nat.le_refl _, Kd.C_nil _ _⟩
      · simp only [Prod.mk.injEq] at hy
        simp only [if_true] at hzl
        have hlen : (zs.take len').length = len' := by rw [List.length_take]; omega
        refine ⟨⟨z, zs.take len'⟩, hz', hzw, (fun x hx => hwz x (List.mem_of_mem_take hx)), .inr ⟨_, hy.1⟩, some a', cap', by rw [hlen]; simpa using hcs, by rw [hlen]; exact hl', ?_⟩
        refine Kd.C_of_reads (d := (0 : Int)) (h1 := fun _ => rfl) ⟨rfl, by rw [hlen]; simp only [maxLen] at hm'; omega, fun hn => ⟨a', rfl, fun c hc => ?_⟩⟩
        have hcc : c < len' := by have hc2 : c < (zs.take len').length := hc; omega
        rw [hcell c (by omega)]
        congr 2
        rw [List.getD_eq_getElem?_getD, List.getD_eq_getElem?_getD, List.getElem?_take_of_lt hcc]
    haveI : Inhabited S33 := ⟨z33⟩
    obtain ⟨y, hy⟩ := Deep.choose_lt each
    have hget : ∀ (j : Nat) (s : S33), ((List.range len).map y)[j]? = some s → j < len ∧ s = y j := fun j s hj => by
      obtain ⟨h1, h2⟩ := List.getElem?_eq_some_iff.1 hj
      simp at h1 h2
      exact ⟨h1, h2.symm⟩
    have hin : ∀ s ∈ (List.range len).map y, ∃ j, j < len ∧ s = y j := fun s hs => by
      obtain ⟨j, hj, rfl⟩ := List.mem_map.1 hs
      exact ⟨j, List.mem_range.1 hj, rfl⟩
    refine ⟨(List.range len).map y, by simp, ⟨rfl, by simp only [maxLen] at hm; simp; omega, fun _ => ⟨ad, rfl, fun j p hj => ?_⟩⟩, by simpa using hl, by simp; omega, ?_, ?_, Or.inr ⟨_, _, hx, by simp, fun j s hj => ?_⟩⟩
    · obtain ⟨h1, rfl⟩ := hget j p hj
      obtain ⟨g1, g2, _, _⟩ := hrow j (by omega)
      obtain ⟨e1, e2, e3, e4, A, C, e5, e6, e7⟩ := hy j h1
      refine ⟨[.int .i64 (y j).f0, .slice A (y j).f1.length C], rfl, k33_mk w (y j) e6 e7, fun i u hu => ?_⟩
      cases i with
      | zero =>
        have : Value.int .i64 (y j).f0 = u := by simpa using hu
        subst this
        rw [show k33.sz = 2 from rfl, Nat.add_zero, ← e1]
        exact g1
      | succ i =>
        cases i with
        | zero =>
          have : Value.slice A (y j).f1.length C = u := by simpa using hu
          subst this
          rw [show k33.sz = 2 from rfl, ← e5]
          exact g2
        | succ i => simp at hu
    · intro s hs
      obtain ⟨j, hj, rfl⟩ := hin s hs
      exact (hy j hj).2.1
    · intro s hs
      obtain ⟨j, hj, rfl⟩ := hin s hs
      exact (hy j hj).2.2.1
    · obtain ⟨h1, rfl⟩ := hget j s hj
      exact ⟨D0 j, D1 j, by rw [List.getElem?_map, List.getElem?_range h1]; rfl, (hy j h1).2.2.2.1⟩

theorem sized_secs {t e q : TypeId} {f0 f1 : Field} {ts : List TypeId} {ds : List (DataW H)} {j : Nat} {d : DataW H} {l : List S33} (hsz : (DataW.weightsEach P ts ds).all (· ≤ reachBytes) = true) (hts : ts[j]? = some t) (hds : ds[j]? = some d)
    (ht : P.underlying t = some (.slice e)) (he : P.underlying e = some (.struct #[f0, f1])) (hq : P.underlying f1.type = some (.slice q)) {B1 B2 : Nat} (h1 : P.bytesOf e = B1) (h2 : P.bytesOf q = B2) (h : SecsDat l d) :
    l.length * B1 ≤ 140737488351232 ∧ ∀ s ∈ l, s.f1.length * B2 ≤ 140737488351232 := by
  subst h1; subst h2
  rcases h with ⟨rfl, rfl⟩ | ⟨els, sp, rfl, hl, hj⟩
  · exact ⟨by simp, fun r hr => by cases hr⟩
  · refine ⟨?_, fun s hs => ?_⟩
    · have := sized_slice hsz hts hds ht
      have h3 : l.length * P.bytesOf e ≤ (els.length + sp.length) * P.bytesOf e := Nat.mul_le_mul_right _ (by omega)
      exact Nat.le_trans h3 this
    · obtain ⟨i, hi⟩ := List.mem_iff_getElem?.1 hs
      obtain ⟨z0, z1, hz, hd⟩ := hj i s hi
      rcases hd with ⟨rfl, hn⟩ | ⟨sp2, rfl⟩
      · rw [hn]; simp
      · have hm : (DataW.agg [z0, DataW.slice (lits .u8 s.f1) sp2]) ∈ els := List.mem_of_getElem? hz
        have h3 := List.all_eq_true.1 hsz _ (DataW.weights_mem_each hts hds ((s.f1.length + sp2.length) * P.bytesOf q) (by
          simp only [DataW.weights, ht, List.mem_cons, List.mem_append]
          refine .inr (.inl (weightsAll_mem ?_ hm))
          simp [DataW.weights, DataW.weightsEach, he, hq, lits_length]))
        have h4 : (s.f1.length + sp2.length) * P.bytesOf q ≤ reachBytes := by simpa using h3
        have h5 : s.f1.length * P.bytesOf q ≤ (s.f1.length + sp2.length) * P.bytesOf q := Nat.mul_le_mul_right _ (by omega)
        exact Nat.le_trans h5 h4
end Go.Proofs.Ytpmikaoheaefiaa.X
