/- b[:n:n], n = len(b), of a row of bytes of the call's own, and append onto it: it always moves into new memory. -/
import Derived.Test.YtkndghbognhocaaWMore
import Derived.ArgAppend
namespace Go.Proofs.YtkndghbognhocaaW.PrintWords
open Go.RowKit
set_option linter.unusedVariables false
/-- A cut whose capacity is its length. -/
theorem cut_full {P : Program} (t e : TypeId) {i : TypeInfo} (ht : P.underlying t = some (.slice e)) (hi : P.info? e = some i) (A : Option Addr) (n c : Nat) (hc : n ≤ c) :
    ∀ W : World, (Instr.slice t (.slice A n c) none (some (.int .i64 (n : Int))) (some (.int .i64 (n : Int)))).run P W = .ok (.slice A n n) W := by
  intro W
  have hel : P.elem t = e := by simp [Program.elem, ht]
  have hu : P.underlying t = some (.slice (P.elem t)) := by rw [hel]; exact ht
  have ha : (A.map fun x => x.add 0) = A := by cases A <;> simp [Addr.add]
  rw [run_slice_hm W t A n c hu .i64 .i64 (n : Int) (n : Int) (by omega) (by omega) (by omega), hel]
  simp [sizeOf, typeInfo, hi, sliced, Result.andThen, ha]
namespace Kd
section
variable {P : Program} {ops : Array Oper} {rest : List Oper} {o : Oper} {a : Act} {Q : Exit → Act → World → Prop} {Kc : Act → World → Prop}
theorem append_full_run {W : World} (base : Nat) (t ty e : TypeId) (z : Value) (bytes : Nat)
    (ht : P.underlying t = some (.slice e)) (hinfo : (P.info? e).map (fun i => (i.zero, i.size, i.bytes)) = some (some z, 1, bytes)) (hz : z.cells.size = 1) (hb0 : 0 < bytes)
    (A0 : Option Addr) (n0 c0 : Nat) (xs ys : List Int) (A : Option Addr) (m c : Nat) (ok : Nat → Prop)
    (HO : (Kd.int .u8).R e W base ok (.slice A0 n0 c0) xs) (HR : (Kd.int .u8).C W A m ys) (hx0 : 0 < xs.length) (hy0 : 0 < ys.length) (hfresh : ∀ k, W.heap.size ≤ k → ok k)
    (hbase : base ≤ W.heap.size) (hl : (xs.length + m) * bytes ≤ 140737488355328) :
    ∃ v1 w1, (Builtin.append_ #[t, t] ty #[.slice A0 n0 n0, .slice A m c]).run P W = .ok v1 w1 ∧ (Kd.int .u8).R e w1 base ok v1 (xs ++ ys) ∧ W.grownBy w1 none ∧ (v1.ownBlock = (Value.slice A0 n0 c0).ownBlock ∨ ∃ b, v1.ownBlock = some b ∧ W.heap.size ≤ b) := by
  obtain ⟨i0, hi, hzz⟩ := Option.map_eq_some_iff.1 hinfo
  simp only [Prod.mk.injEq] at hzz
  obtain ⟨hz0, hz1, hz2⟩ := hzz
  obtain ⟨hn, hnc, hC⟩ := Kd.R_reads' HO
  subst hn
  have hX := reads_of_C (enc := Value.int .u8) (d := (0 : Int)) (h1 := fun _ => rfl) hC
  have hY := reads_of_C (enc := Value.int .u8) (d := (0 : Int)) (h1 := fun _ => rfl) HR
  have hm : ys.length = m := hY.1
  obtain ⟨ad, rfl, hcx⟩ := hX.2.2 hx0
  obtain ⟨bd, rfl, hcy⟩ := hY.2.2 (by omega)
  have hlen : xs.length + m ≤ 140737488355328 := Nat.le_trans (Nat.le_mul_of_pos_right _ hb0) hl
  have cell : ∀ (l : List Int) (q : Addr), (∀ j, j < l.length → W.cell? (q.add j) = some (.int .u8 (l.getD j 0))) → ∀ j u, (encs (Value.int .u8) l)[j]? = some u → W.cell? (q.add j) = some u := by
    intro l q hq j u hu
    obtain ⟨h1, h2⟩ := List.getElem?_eq_some_iff.1 hu
    rw [encs_length] at h1
    rw [hq j h1, ← h2]
    simp [encs, List.getD_eq_getElem?_getD, h1]
  obtain ⟨v1, w1, hrun, hown, hg⟩ := run_append_arg_grows (P := P) (w := W) t ty e i0 z 1 bytes ht hi hz0 hz1 hz2 hz (by omega) ad xs.length xs.length (encs (Value.int .u8) xs) (by rw [encs_length, Nat.mul_one]) (cell xs ad (fun j hj => hcx j hj))
    bd m c (encs (Value.int .u8) ys) (by rw [encs_length, Nat.mul_one, hm]) (cell ys bd (fun j hj => hcy j (by omega))) (by omega) (by simp only [maxLen]; omega) hl
  have hne : ∀ k, v1.ownBlock = some k → W.heap.size ≤ k := fun k hk => own_base hown k hk
  have hR : (Kd.int .u8).R e w1 base ok v1 (xs ++ ys) := by
    refine Kd.R_lower (base := W.heap.size) ?_ hbase
    refine Kd.R_of_own ?_ (fun k hk => hfresh k (hne k hk))
    rw [show (xs ++ ys).length = xs.length + m by rw [List.length_append, hm], show encs (Value.int .u8) (xs ++ ys) = encs (Value.int .u8) xs ++ encs (Value.int .u8) ys by simp [encs]]
    exact hown
  refine ⟨v1, w1, hrun, hR, hg, ?_⟩
  rcases hown.form (by omega) with ⟨g', cap', he, hb, _⟩
  exact .inr ⟨g', by rw [he]; simp [Value.ownBlock], hb⟩
theorem R_append_full {w0 W : World} (base : Nat) (hgd : o.guard = none) (s x : Operand) (t e : TypeId) (z : Value) (bytes : Nat)
    (ho : o.op = .call { callee := .builtin .append, args := #[s, x], argTypes := #[t, t] })
    (ht : P.underlying t = some (.slice e)) (hinfo : (P.info? e).map (fun i => (i.zero, i.size, i.bytes)) = some (some z, 1, bytes)) (hz : z.cells.size = 1) (hb0 : 0 < bytes)
    (A0 : Option Addr) (n0 c0 : Nat) (xs ys : List Int) (A : Option Addr) (m c : Nat) (ok : Nat → Prop) (hs : a.eval s = .slice A0 n0 n0) (hx : a.eval x = .slice A m c)
    (HO : (Kd.int .u8).R e W base ok (.slice A0 n0 c0) xs) (HR : (Kd.int .u8).C W A m ys) (hx0 : 0 < xs.length) (hy0 : 0 < ys.length) (hfresh : ∀ k, W.heap.size ≤ k → ok k)
    (HB : Below base w0 W) (hbase : base ≤ W.heap.size) (hl : (xs.length + m) * bytes ≤ 140737488355328)
    (h : ∀ v1 w1, (Kd.int .u8).R e w1 base ok v1 (xs ++ ys) → Below base w0 w1 → W.grownBy w1 (Value.slice A0 n0 c0).ownBlock → (v1.ownBlock = (Value.slice A0 n0 c0).ownBlock ∨ ∃ b, v1.ownBlock = some b ∧ W.heap.size ≤ b) → wpList P ops Q rest (a.put o.dst v1) w1) :
    wpList P ops Q (o :: rest) a W := by
  obtain ⟨v1, w1, hrun, hR, hg, hat⟩ := append_full_run (P := P) base t o.type e z bytes ht hinfo hz hb0 A0 n0 c0 xs ys A m c ok HO HR hx0 hy0 hfresh hbase hl
  refine wpList_plain hgd fun K hK => ?_
  unfold Oper.wp execOp
  simp only [ho, resolve, invoke, builtin, Sem.run_bind, Sem.run_pure, Result.andThen_ok, List.map_toArray, List.map_cons, List.map_nil, hs, hx, hrun]
  exact hK _ _ (h v1 w1 hR (HB.grown hg hbase (fun k hk => by simp at hk)) ⟨hg.os, hg.tape, hg.output, hg.size, fun k hk _ => hg.block k hk (by simp)⟩ hat)
theorem R_append_full_step {w0 W : World} (base : Nat) (hw : Region.wanted o (yielded ops a.tmps) = true) (s x : Operand) (t e : TypeId) (z : Value) (bytes : Nat)
    (ho : o.op = .call { callee := .builtin .append, args := #[s, x], argTypes := #[t, t] })
    (ht : P.underlying t = some (.slice e)) (hinfo : (P.info? e).map (fun i => (i.zero, i.size, i.bytes)) = some (some z, 1, bytes)) (hz : z.cells.size = 1) (hb0 : 0 < bytes)
    (A0 : Option Addr) (n0 c0 : Nat) (xs ys : List Int) (A : Option Addr) (m c : Nat) (ok : Nat → Prop) (hs : a.eval s = .slice A0 n0 n0) (hx : a.eval x = .slice A m c)
    (HO : (Kd.int .u8).R e W base ok (.slice A0 n0 c0) xs) (HR : (Kd.int .u8).C W A m ys) (hx0 : 0 < xs.length) (hy0 : 0 < ys.length) (hfresh : ∀ k, W.heap.size ≤ k → ok k)
    (HB : Below base w0 W) (hbase : base ≤ W.heap.size) (hl : (xs.length + m) * bytes ≤ 140737488355328)
    (h : ∀ v1 w1, (Kd.int .u8).R e w1 base ok v1 (xs ++ ys) → Below base w0 w1 → W.grownBy w1 (Value.slice A0 n0 c0).ownBlock → (v1.ownBlock = (Value.slice A0 n0 c0).ownBlock ∨ ∃ b, v1.ownBlock = some b ∧ W.heap.size ≤ b) → Kc (a.put o.dst v1) w1) :
    if Region.wanted o (yielded ops a.tmps) = true then Oper.wp P o a W Kc Q else Kc (a.put o.dst undef) W := by
  obtain ⟨v1, w1, hrun, hR, hg, hat⟩ := append_full_run (P := P) base t o.type e z bytes ht hinfo hz hb0 A0 n0 c0 xs ys A m c ok HO HR hx0 hy0 hfresh hbase hl
  rw [if_pos hw]
  unfold Oper.wp execOp
  simp only [ho, resolve, invoke, builtin, Sem.run_bind, Sem.run_pure, Result.andThen_ok, List.map_toArray, List.map_cons, List.map_nil, hs, hx, hrun]
  exact h v1 w1 hR (HB.grown hg hbase (fun k hk => by simp at hk)) ⟨hg.os, hg.tape, hg.output, hg.size, fun k hk _ => hg.block k hk (by simp)⟩ hat
end
end Kd
end Go.Proofs.YtkndghbognhocaaW.PrintWords
