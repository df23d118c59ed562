import Derived.Test.YtkeekganabafbaaXJTu6
/- Texts of this claim, joined. -/
section
namespace Go.Proofs.Ytkeekganabafbaa.X
open Go.RowKit Go.Proofs.YtkeekganabafbaaW.PrintWords Go.Proofs.YtkeekganabafbaaW.PrintLast Go.Proofs.YtkeekganabafbaaW.PrintMore Go.Proofs.Ytkeekganabafbaa.Pure
attribute [local go_sem] max2_int min2_int max_two min_two max_three min_three max_four min_four
set_option linter.unusedVariables false
set_option linter.unusedSimpArgs false
def TLeast : Tab := ⟨List.replicate 256 0, [[-1]], [-1], [], [[⟨0, 0⟩]], [[-1, -1]], [0], [1]⟩
theorem TLeast_cls : TLeast.cls.length = 256 := List.length_replicate
theorem numsL_least (m : Int) (xs : List Int) (h : ∀ x ∈ xs, 0 ≤ x + m ∧ x + m < 128) : numsL m xs = xs.map (· + m) := by
  induction xs with
  | nil => rfl
  | cons a l ih =>
    have h1 := h a (by simp)
    rw [numsL_cons, enc_small _ (by omega), ih (fun x hx => h x (by simp [hx])), List.map_cons]
    show ((a + m).toNat : Int) :: _ = _
    rw [Int.toNat_of_nonneg h1.1]
    rfl
theorem secL_least : secL TLeast = [⟨1, [1, 1, 0, 1, 1, 2, 1]⟩, ⟨2, List.replicate 256 0⟩, ⟨3, [0]⟩, ⟨4, [0]⟩, ⟨5, []⟩, ⟨6, [0]⟩, ⟨7, [0, 0]⟩, ⟨8, [0, 1]⟩] := by
  unfold secL
  rw [show dimsL TLeast = [1, 1, 0, 1, 1, 2, 1] from rfl, show TLeast.next.flatten = [-1] from rfl, show TLeast.rule = [-1] from rfl, show TLeast.terms = [] from rfl, show TLeast.action.flatten.map codeI = [0] from rfl, show TLeast.goto.flatten = [-1, -1] from rfl, show prodsL TLeast = [0, 1] from rfl]
  rw [numsL_least 0 [1, 1, 0, 1, 1, 2, 1] (by decide), numsL_least 1 [-1] (by decide), numsL_least 0 [] (by decide), numsL_least 0 [0] (by decide), numsL_least 1 [-1, -1] (by decide), numsL_least 0 [0, 1] (by decide)]
  rw [show TLeast.cls.map (fun k => k % 256) = List.replicate 256 0 from by unfold TLeast; dsimp only; rw [List.map_replicate]; rfl]
  rfl
theorem mayB_least : mayB TLeast = true := by kernel_rfl
theorem bytes_least : bytesI TLeast = packI 1 (secL TLeast) := by
  unfold bytesI
  rw [if_pos mayB_least]
theorem pack_least : ∃ b, packI 1 (secL TLeast) = (b, 0) := by
  refine ⟨_, packI_of 1 (secL TLeast) ?_ ?_ ?_⟩
  · rw [secL_least]; rfl
  · rw [secL_least]
    intro s hs
    simp only [List.mem_cons, List.not_mem_nil, or_false] at hs
    rcases hs with h | h | h | h | h | h | h | h <;> subst h <;> first | (rw [List.length_replicate]; omega) | decide
  have h := secs_length 256 (by decide) (secL TLeast) (by
    rw [secL_least]
    intro s hs
    simp only [List.mem_cons, List.not_mem_nil, or_false] at hs
    rcases hs with h | h | h | h | h | h | h | h <;> subst h <;> first | (rw [List.length_replicate]; omega) | decide)
  have h8 : (secL TLeast).length = 8 := rfl
  rw [h8] at h
  omega
theorem C_one {α : Type} (d : Kd α) {W : World} {g : Nat} {x : α} {cs : List Value} {t : TypeId} (h : W.heap[g]? = some (.cells cs.toArray t (0, 0))) (hK : d.K W x cs) (hl : cs.length = d.sz) : d.C W (some ⟨g, 0, none⟩) 1 [x] := by
  refine ⟨rfl, by decide, fun _ => ⟨_, rfl, fun j p hj => ?_⟩⟩
  rcases j with _ | j
  · injection hj with hj
    subst hj
    refine ⟨cs, hl, hK, fun i u hu => ?_⟩
    rw [Nat.zero_mul, Nat.zero_add, add_plain, blk_cell h i, List.getElem?_toArray]
    exact hu
  simp at hj
theorem C_ints {W : World} {g n : Nat} {xs : List Int} (h : W.heap[g]? = some (.cells (xs.map (Value.int .i64)).toArray 3 (0, 0))) (hn : xs.length = n) (hm : n ≤ 1000) : (Kd.int .i64).C W (some ⟨g, 0, none⟩) n xs := by
  refine ⟨hn, by omega, fun _ => ⟨_, rfl, fun j p hj => ⟨[.int .i64 p], rfl, rfl, fun i u hu => ?_⟩⟩⟩
  rcases i with _ | i
  · injection hu with hu
    subst hu
    show W.cell? ((⟨g, 0, none⟩ : Addr).add (j * 1 + 0)) = _
    rw [Nat.mul_one, Nat.add_zero, add_plain, blk_cell h j, List.getElem?_toArray, List.getElem?_map, hj]
    rfl
  simp at hu
structure LB (W : World) (g1 g2 g3 g6 g7 g8 g9 g10 g11 : Nat) (a : S38) : Prop where
  b1 : W.heap[g1]? = some (.cells #[.int .i64 (-1)] 3 (0, 0))
  b2 : W.heap[g2]? = some (.cells #[.slice (some ⟨g1, 0, none⟩) 1 1] 24 (0, 0))
  b3 : W.heap[g3]? = some (.cells #[.int .i64 (-1)] 3 (0, 0))
  b6 : W.heap[g6]? = some (.cells #[.int .i64 a.f0, .int .i64 a.f1] 38 (0, 0))
  b7 : W.heap[g7]? = some (.cells #[.slice (some ⟨g6, 0, none⟩) 1 1] 39 (0, 0))
  b8 : W.heap[g8]? = some (.cells #[.int .i64 (-1), .int .i64 (-1)] 3 (0, 0))
  b9 : W.heap[g9]? = some (.cells #[.slice (some ⟨g8, 0, none⟩) 2 2] 24 (0, 0))
  b10 : W.heap[g10]? = some (.cells #[.int .i64 0] 3 (0, 0))
  b11 : W.heap[g11]? = some (.cells #[.int .i64 1] 3 (0, 0))
def TLa (a : S38) : Tab := ⟨List.replicate 256 0, [[-1]], [-1], [], [[a]], [[-1, -1]], [0], [1]⟩
def pL (g2 g3 g7 g9 g10 g11 : Nat) : TL := ⟨some ⟨g2, 0, none⟩, 1, some ⟨g3, 0, none⟩, 1, none, 0, some ⟨g7, 0, none⟩, 1, some ⟨g9, 0, none⟩, 1, some ⟨g10, 0, none⟩, 1, some ⟨g11, 0, none⟩, 1⟩
section
variable {W W' : World} {g1 g2 g3 g6 g7 g8 g9 g10 g11 : Nat} {a : S38}
theorem LB.move (h : LB W g1 g2 g3 g6 g7 g8 g9 g10 g11 a) (hm : ∀ k, k ∈ [g1, g2, g3, g6, g7, g8, g9, g10, g11] → W'.heap[k]? = W.heap[k]?) : LB W' g1 g2 g3 g6 g7 g8 g9 g10 g11 a :=
  ⟨(hm g1 (by simp)).trans h.b1, (hm g2 (by simp)).trans h.b2, (hm g3 (by simp)).trans h.b3, (hm g6 (by simp)).trans h.b6, (hm g7 (by simp)).trans h.b7, (hm g8 (by simp)).trans h.b8, (hm g9 (by simp)).trans h.b9, (hm g10 (by simp)).trans h.b10, (hm g11 (by simp)).trans h.b11⟩
theorem LB.tab (h : LB W g1 g2 g3 g6 g7 g8 g9 g10 g11 a) : TabR W (TLa a) (pL g2 g3 g7 g9 g10 g11) :=
  { cls := List.length_replicate
    r1 := C_one (Kd.slice 3 (Kd.int .i64)) (x := [-1]) (cs := [.slice (some ⟨g1, 0, none⟩) 1 1]) h.b2 ⟨some ⟨g1, 0, none⟩, 1, rfl, Nat.le_refl _, C_ints (xs := [-1]) h.b1 rfl (by decide)⟩ rfl
    l1 := Nat.le_refl _
    r2 := C_ints (n := 1) (xs := [-1]) h.b3 rfl (by decide)
    l2 := Nat.le_refl _
    r3 := Kd.C_nil _ _
    l3 := Nat.le_refl _
    r4 := C_one (Kd.slice 38 k38) (x := [a]) (cs := [.slice (some ⟨g6, 0, none⟩) 1 1]) h.b7 ⟨some ⟨g6, 0, none⟩, 1, rfl, Nat.le_refl _, C_one k38 (x := a) (cs := [.int .i64 a.f0, .int .i64 a.f1]) h.b6 (k38_mk W a) rfl⟩ rfl
    l4 := Nat.le_refl _
    r5 := C_one (Kd.slice 3 (Kd.int .i64)) (x := [-1, -1]) (cs := [.slice (some ⟨g8, 0, none⟩) 2 2]) h.b9 ⟨some ⟨g8, 0, none⟩, 2, rfl, Nat.le_refl _, C_ints (xs := [-1, -1]) h.b8 rfl (by decide)⟩ rfl
    l5 := Nat.le_refl _
    r6 := C_ints (n := 1) (xs := [0]) h.b10 rfl (by decide)
    l6 := Nat.le_refl _
    r7 := C_ints (n := 1) (xs := [1]) h.b11 rfl (by decide)
    l7 := Nat.le_refl _ }
end
def Z256 : List Value := List.replicate 256 (Value.int .i64 0)
theorem built26L (A1 A2 : Option Addr) (n1 c1 n2 c2 : Nat) : Try.prog.built 26 [(1, .slice A1 n1 c1), (2, .slice A2 n2 c2)] = some (Z256 ++ [Value.slice A1 n1 c1, Value.slice A2 n2 c2]).toArray := by kernel_rfl
theorem build26L (W : World) (A1 A2 : Option Addr) (n1 c1 n2 c2 : Nat) : (Instr.build 26 #[(1, .slice A1 n1 c1), (2, .slice A2 n2 c2)]).run Try.prog W = .ok (.agg (Z256 ++ [Value.slice A1 n1 c1, Value.slice A2 n2 c2]).toArray) W := run_build W 26 _ _ (built26L A1 A2 n1 c1 n2 c2)
theorem built29L (g2 g3 g7 g9 g10 g11 : Nat) : Try.prog.built 29 [(0, .agg (Z256 ++ [Value.slice (some ⟨g2, 0, none⟩) 1 1, Value.slice (some ⟨g3, 0, none⟩) 1 1]).toArray), (2, .slice (some ⟨g7, 0, none⟩) 1 1), (3, .slice (some ⟨g9, 0, none⟩) 1 1), (4, .slice (some ⟨g10, 0, none⟩) 1 1), (5, .slice (some ⟨g11, 0, none⟩) 1 1)] = some (tcells TLeast (pL g2 g3 g7 g9 g10 g11)).toArray := by kernel_rfl
theorem build29L (W : World) (g2 g3 g7 g9 g10 g11 : Nat) : (Instr.build 29 #[(0, .agg (Z256 ++ [Value.slice (some ⟨g2, 0, none⟩) 1 1, Value.slice (some ⟨g3, 0, none⟩) 1 1]).toArray), (2, .slice (some ⟨g7, 0, none⟩) 1 1), (3, .slice (some ⟨g9, 0, none⟩) 1 1), (4, .slice (some ⟨g10, 0, none⟩) 1 1), (5, .slice (some ⟨g11, 0, none⟩) 1 1)]).run Try.prog W = .ok (.agg (tcells TLeast (pL g2 g3 g7 g9 g10 g11)).toArray) W := run_build W 29 _ _ (built29L g2 g3 g7 g9 g10 g11)
theorem exec_build26 {a : Act} {o : Oper} {x y : Operand} {W : World} {A1 A2 : Option Addr} {n1 c1 n2 c2 : Nat} (ho : o.op = .build 26 #[(1, x), (2, y)]) (hx : a.eval x = .slice A1 n1 c1) (hy : a.eval y = .slice A2 n2 c2) : (execOp a.eval o).run Try.prog W = .ok (.value (.agg (Z256 ++ [Value.slice A1 n1 c1, Value.slice A2 n2 c2]).toArray)) W := by
  unfold execOp
  simp only [ho, List.map_toArray, List.map_cons, List.map_nil, hx, hy, Sem.run_bind, build26L]
  rfl
theorem exec_build29 {a : Act} {o : Oper} {x0 x2 x3 x4 x5 : Operand} {W : World} {g2 g3 g7 g9 g10 g11 : Nat} (ho : o.op = .build 29 #[(0, x0), (2, x2), (3, x3), (4, x4), (5, x5)]) (h0 : a.eval x0 = .agg (Z256 ++ [Value.slice (some ⟨g2, 0, none⟩) 1 1, Value.slice (some ⟨g3, 0, none⟩) 1 1]).toArray)
    (h2 : a.eval x2 = .slice (some ⟨g7, 0, none⟩) 1 1) (h3 : a.eval x3 = .slice (some ⟨g9, 0, none⟩) 1 1) (h4 : a.eval x4 = .slice (some ⟨g10, 0, none⟩) 1 1) (h5 : a.eval x5 = .slice (some ⟨g11, 0, none⟩) 1 1) : (execOp a.eval o).run Try.prog W = .ok (.value (.agg (tcells TLeast (pL g2 g3 g7 g9 g10 g11)).toArray)) W := by
  unfold execOp
  simp only [ho, List.map_toArray, List.map_cons, List.map_nil, h0, h2, h3, h4, h5, Sem.run_bind, build29L]
  rfl
set_option maxHeartbeats 16000000 in
set_option maxRecDepth 100000 in
theorem Least_calls (w : World) : Calls Try.prog 15 #[] w fun e w' => ∃ g1 g2 g3 g6 g7 g8 g9 g10 g11, e = .returned (.agg (tcells TLeast (pL g2 g3 g7 g9 g10 g11)).toArray) ∧ LB w' g1 g2 g3 g6 g7 g8 g9 g10 g11 ⟨0, 0⟩ ∧ (∀ k, k ∈ [g1, g2, g3, g6, g7, g8, g9, g10, g11] → w.heap.size ≤ k) ∧ (∀ k, k ∈ [g1, g2, g3, g7, g8, g9, g10, g11] → k ≠ g6) ∧ Below w.heap.size w w' := by
  go_enter Try.func15, Try.ntmps15
  go_wp2_with (first | ((with_reducible refine gate_dst (N := 0) rfl ?_); refine box_event ?hg (N := 0) ?hd (cs := (tcells T0 P0).toArray) (t := 29) ?hr ?_; (case hd => rfl); (case hg => rfl); (case hr => rw [← zc29]; simp [execOp, go_sem]); intro b0 hg u0 hb0 be0; have z0 : w.heap.size ≤ b0 := Nat.le_of_eq hg.symm; clear hg) | ((with_reducible refine gate_dst (N := 1) rfl ?_); refine slice_event ?hg (N := 1) ?hd (cs := #[.int .i64 (-1)]) (t := 3) (n := 1) ?hr ?_; (case hd => rfl); (case hg => rfl); (case hr => first | (go_simp; done) | (go_simp; rfl)); intro g1 hg u1 hb1 be1; have z1 : u0.heap.size ≤ g1 := Nat.le_of_eq hg.symm; clear hg) | ((with_reducible refine gate_dst (N := 2) rfl ?_); refine slice_event ?hg (N := 2) ?hd (cs := #[.slice (some ⟨g1, 0, none⟩) 1 1]) (t := 24) (n := 1) ?hr ?_; (case hd => rfl); (case hg => rfl); (case hr => first | (go_simp; done) | (go_simp; rfl)); intro g2 hg u2 hb2 be2; have z2 : u1.heap.size ≤ g2 := Nat.le_of_eq hg.symm; clear hg) | ((with_reducible refine gate_dst (N := 3) rfl ?_); refine slice_event ?hg (N := 3) ?hd (cs := #[.int .i64 (-1)]) (t := 3) (n := 1) ?hr ?_; (case hd => rfl); (case hg => rfl); (case hr => first | (go_simp; done) | (go_simp; rfl)); intro g3 hg u3 hb3 be3; have z3 : u2.heap.size ≤ g3 := Nat.le_of_eq hg.symm; clear hg) | ((with_reducible refine gate_dst (N := 6) rfl ?_); refine slice_event ?hg (N := 6) ?hd (cs := #[.int .i64 0, .int .i64 0]) (t := 38) (n := 1) ?hr ?_; (case hd => rfl); (case hg => rfl); (case hr => first | (go_simp; done) | (go_simp; rfl)); intro g6 hg u6 hb6 be6; have z6 : u3.heap.size ≤ g6 := Nat.le_of_eq hg.symm; clear hg) | ((with_reducible refine gate_dst (N := 7) rfl ?_); refine slice_event ?hg (N := 7) ?hd (cs := #[.slice (some ⟨g6, 0, none⟩) 1 1]) (t := 39) (n := 1) ?hr ?_; (case hd => rfl); (case hg => rfl); (case hr => first | (go_simp; done) | (go_simp; rfl)); intro g7 hg u7 hb7 be7; have z7 : u6.heap.size ≤ g7 := Nat.le_of_eq hg.symm; clear hg) | ((with_reducible refine gate_dst (N := 8) rfl ?_); refine slice_event ?hg (N := 8) ?hd (cs := #[.int .i64 (-1), .int .i64 (-1)]) (t := 3) (n := 2) ?hr ?_; (case hd => rfl); (case hg => rfl); (case hr => first | (go_simp; done) | (go_simp; rfl)); intro g8 hg u8 hb8 be8; have z8 : u7.heap.size ≤ g8 := Nat.le_of_eq hg.symm; clear hg) | ((with_reducible refine gate_dst (N := 9) rfl ?_); refine slice_event ?hg (N := 9) ?hd (cs := #[.slice (some ⟨g8, 0, none⟩) 2 2]) (t := 24) (n := 1) ?hr ?_; (case hd => rfl); (case hg => rfl); (case hr => first | (go_simp; done) | (go_simp; rfl)); intro g9 hg u9 hb9 be9; have z9 : u8.heap.size ≤ g9 := Nat.le_of_eq hg.symm; clear hg) | ((with_reducible refine gate_dst (N := 10) rfl ?_); refine slice_event ?hg (N := 10) ?hd (cs := #[.int .i64 0]) (t := 3) (n := 1) ?hr ?_; (case hd => rfl); (case hg => rfl); (case hr => first | (go_simp; done) | (go_simp; rfl)); intro g10 hg u10 hb10 be10; have z10 : u9.heap.size ≤ g10 := Nat.le_of_eq hg.symm; clear hg) | ((with_reducible refine gate_dst (N := 11) rfl ?_); refine slice_event ?hg (N := 11) ?hd (cs := #[.int .i64 1]) (t := 3) (n := 1) ?hr ?_; (case hd => rfl); (case hg => rfl); (case hr => first | (go_simp; done) | (go_simp; rfl)); intro g11 hg u11 hb11 be11; have z11 : u10.heap.size ≤ g11 := Nat.le_of_eq hg.symm; clear hg) | ((with_reducible refine gate_dst (N := 4) rfl ?_); refine Kd.event_run (v := .agg (Z256 ++ [Value.slice (some ⟨g2, 0, none⟩) 1 1, Value.slice (some ⟨g3, 0, none⟩) 1 1]).toArray) (w1 := u3) rfl (exec_build26 (x := .tmp 2) (y := .tmp 3) rfl rfl rfl) ?_) | ((with_reducible refine gate_dst (N := 12) rfl ?_); refine Kd.event_run (v := .agg (tcells TLeast (pL g2 g3 g7 g9 g10 g11)).toArray) (w1 := u11) rfl (exec_build29 (x0 := .tmp 4) (x2 := .tmp 7) (x3 := .tmp 9) (x4 := .tmp 10) (x5 := .tmp 11) rfl rfl rfl rfl rfl rfl) ?_) | (refine wpList_store_row (w := u11) rfl 29 (.tmp 0) (.tmp 12) rfl b0 (tcells TLeast (pL g2 g3 g7 g9 g10 g11)).toArray ?sx ?sy 29 (tcells T0 P0).toArray ?st (sizeT TLeast_cls) ((tsz T0_cls).trans (tsz TLeast_cls).symm) (tcells_one _ _) ?_; (case sx => rfl); (case sy => rfl); (case st => exact (blk_below (blk_below (blk_below (blk_below (blk_below (blk_below (blk_below (blk_below (blk_below (hb0) be1) be2) be3) be6) be7) be8) be9) be10) be11))))
  have hT0 : TBlk u11 b0 T0 P0 29 := blk_below (blk_below (blk_below (blk_below (blk_below (blk_below (blk_below (blk_below (blk_below (hb0) be1) be2) be3) be6) be7) be8) be9) be10) be11
  have hTL := setRow_heap u11 b0 _ (tcells TLeast (pL g2 g3 g7 g9 g10 g11)).toArray 29 (0, 0) hT0
  have hbe : Below w.heap.size w u11 := below_step (below_step (below_step (below_step (below_step (below_step (below_step (below_step (below_step (be0) be1) be2) be3) be6) be7) be8) be9) be10) be11
  have hkb := row_kb u11 b0 (tcells TLeast (pL g2 g3 g7 g9 g10 g11)).toArray
  have hbe2 := keep_below hbe hkb z0
  have hLB : LB u11 g1 g2 g3 g6 g7 g8 g9 g10 g11 ⟨0, 0⟩ := ⟨blk_below (blk_below (blk_below (blk_below (blk_below (blk_below (blk_below (blk_below (hb1) be2) be3) be6) be7) be8) be9) be10) be11, blk_below (blk_below (blk_below (blk_below (blk_below (blk_below (blk_below (hb2) be3) be6) be7) be8) be9) be10) be11, blk_below (blk_below (blk_below (blk_below (blk_below (blk_below (hb3) be6) be7) be8) be9) be10) be11, blk_below (blk_below (blk_below (blk_below (blk_below (hb6) be7) be8) be9) be10) be11, blk_below (blk_below (blk_below (blk_below (hb7) be8) be9) be10) be11, blk_below (blk_below (blk_below (hb8) be9) be10) be11, blk_below (blk_below (hb9) be10) be11, blk_below (hb10) be11, hb11⟩
  have s0 := blk_lt hb0
  have s1 := blk_lt hb1
  have s2 := blk_lt hb2
  have s3 := blk_lt hb3
  have s6 := blk_lt hb6
  have s7 := blk_lt hb7
  have s8 := blk_lt hb8
  have s9 := blk_lt hb9
  have s10 := blk_lt hb10
  have s11 := blk_lt hb11
  have t0 := be0.size
  have t1 := be1.size
  have t2 := be2.size
  have t3 := be3.size
  have t6 := be6.size
  have t7 := be7.size
  have t8 := be8.size
  have t9 := be9.size
  have t10 := be10.size
  have t11 := be11.size
  have hzz : w.heap.size ≤ b0 ∧ b0 < g1 ∧ g1 < g2 ∧ g2 < g3 ∧ g3 < g6 ∧ g6 < g7 ∧ g7 < g8 ∧ g8 < g9 ∧ g9 < g10 ∧ g10 < g11 ∧ g11 < u11.heap.size := by omega
  clear s0 s1 s2 s3 s6 s7 s8 s9 s10 s11 t0 t1 t2 t3 t6 t7 t8 t9 t10 t11 z1 z2 z3 z6 z7 z8 z9 z10 z11
  have hLB2 := hLB.move (W' := u11.setRow b0 (tcells TLeast (pL g2 g3 g7 g9 g10 g11)).toArray) (fun k hk => hkb.1.2 k (by simp only [List.mem_cons, List.not_mem_nil, or_false] at hk; omega) (by simp only [List.mem_cons, List.not_mem_nil, or_false] at hk; omega) (by simp))
  refine bodyPost_ret (results_cell_row rfl _ _ b0 29 _ (0, 0) _ rfl hTL Try.underlying29 rfl (sizeT TLeast_cls)) rfl ?_
  exact ⟨g1, g2, g3, g6, g7, g8, g9, g10, g11, rfl, hLB2, (fun k hk => by simp only [List.mem_cons, List.not_mem_nil, or_false] at hk; omega), (fun k hk => by simp only [List.mem_cons, List.not_mem_nil, or_false] at hk; omega), hbe2⟩
end Go.Proofs.Ytkeekganabafbaa.X
end
