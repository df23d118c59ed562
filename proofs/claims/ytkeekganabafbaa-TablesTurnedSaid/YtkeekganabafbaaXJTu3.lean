import Derived.Test.YtkeekganabafbaaXJTu2
import Derived.Test.YtkeekganabafbaaXJTu1
/- Texts of this claim, joined. -/
section
namespace Go.Proofs.Ytkeekganabafbaa.X
open Go.RowKit Go.Proofs.YtkeekganabafbaaW.PrintWords Go.Proofs.YtkeekganabafbaaW.PrintLast Go.Proofs.YtkeekganabafbaaW.PrintMore
attribute [local go_sem] max2_int min2_int max_two min_two max_three min_three max_four min_four
set_option linter.unusedVariables false
set_option linter.unusedSimpArgs false
theorem zip_at {α β : Type} (xs : List α) (ys : List β) (a : α) (b : β) (h : ys.length = xs.length) (i : Int) (h0 : 0 ≤ i) (h1 : i < (xs.length : Int)) : (xs.zip ys).drop i.toNat = (xs.getD i.toNat a, ys.getD i.toNat b) :: (xs.zip ys).drop (i + 1).toNat := by
  have hz : (xs.zip ys).length = xs.length := by rw [List.length_zip, h, Nat.min_self]
  rw [drop_at (xs.zip ys) (a, b) i h0 (by rw [hz]; exact h1)]
  congr 1
  have hj1 : i.toNat < xs.length := by omega
  have hj2 : i.toNat < ys.length := by omega
  have hzz : (xs.zip ys)[i.toNat]? = some (xs[i.toNat], ys[i.toNat]) := by rw [List.getElem?_zip_eq_some]; exact ⟨List.getElem?_eq_getElem hj1, List.getElem?_eq_getElem hj2⟩
  rw [List.getD_eq_getElem?_getD, List.getD_eq_getElem?_getD, List.getD_eq_getElem?_getD, hzz, List.getElem?_eq_getElem hj1, List.getElem?_eq_getElem hj2]
  rfl
def actOk (a : S38) (k s p : Int) : Bool := (tables_mayAct.f a.f0 a.f1 k s p).getD false
theorem actOk_some (a : S38) (k s p : Int) : tables_mayAct.f a.f0 a.f1 k s p = some (actOk a k s p) := by
  unfold actOk tables_mayAct.f
  repeat' split
  all_goals rfl
def actsOk (s p : Int) : Int → List S38 → Bool
  | _, [] => true
  | k, a :: l => actOk a k s p && actsOk s p (k + 1) l
def tN (T : Tab) : Nat := (rd_LA T.action 0).length
def nN (T : Tab) : Nat := (rd_L4 T.goto 0).length
def mayA (T : Tab) : Bool := dfaB T && decide (1 ≤ T.action.length) && decide (T.action.length ≤ 512) && decide (T.goto.length = T.action.length) && decide (1 ≤ T.left.length) && decide (T.left.length ≤ 128) && decide (T.size.length = T.left.length) && decide (T.terms.length ≤ 64)
def mayN (T : Tab) : Bool := decide (1 ≤ tN T) && decide (tN T ≤ 48) && decide (2 ≤ nN T) && decide (nN T ≤ 48)
def mayT (T : Tab) : Bool := !(T.terms.any (fun x => (decide (x < 0) || decide ((tN T : Int) ≤ x))))
def mayU (T : Tab) : Bool := !(T.rule.any (fun x => decide ((T.terms.length : Int) ≤ x)))
def mayRow (T : Tab) (x : List S38 × List Int) : Bool := decide (x.1.length = tN T) && decide (x.2.length = nN T) && actsOk T.action.length T.left.length 0 x.1 && !(x.2.any (fun x => (decide (x < -1) || decide ((T.action.length : Int) ≤ x))))
def mayR (T : Tab) : Bool := (T.action.zip T.goto).all (mayRow T)
def prodOk (n i : Int) (x : Int × Int) : Bool := decide (0 ≤ x.1) && decide (x.1 < n) && ((x.1 == 0) == (i == 0)) && decide (0 ≤ x.2) && decide (x.2 ≤ 12)
def prodsOk (n : Int) : Int → List (Int × Int) → Bool
  | _, [] => true
  | i, x :: l => prodOk n i x && prodsOk n (i + 1) l
def mayP (T : Tab) : Bool := prodsOk (nN T) 0 (T.left.zip T.size)
def mayS (T : Tab) : Bool := rd T.size 0 == 1
def mayB (T : Tab) : Bool := mayA T && mayN T && mayT T && mayU T && mayR T && mayP T && mayS T
theorem below_box {w W : World} (h : Below w.heap.size w W) {g : Nat} (hg : w.heap.size ≤ g) (u : Value) (o : Nat) : Below w.heap.size w (W.setCell ⟨g, o, none⟩ u) := h.setCell hg u
set_option maxHeartbeats 16000000 in
set_option maxRecDepth 100000 in
theorem may_calls (T : Tab) (p : TL) (w : World) (hT : TabR w T p) (hl1 : T.next.length ≤ 9223372036854775806) (hl2 : T.rule.length ≤ 9223372036854775806) (hl3 : T.terms.length ≤ 9223372036854775806) :
    Calls Try.prog 30 #[.agg (tcells T p).toArray] w fun e w' => e = .returned (.bool (mayB T)) ∧ Below w.heap.size w w' := by
  have HT0 := Aside0.mk hT
  have HL1 := Aside0.mk hl1
  have HL2 := Aside0.mk hl2
  have HL3 := Aside0.mk hl3
  clear hl1 hl2 hl3
  go_enter Try.func30, Try.ntmps30
  go_upto_region 1 with (first | ((with_reducible refine gate_dst (N := 1) rfl ?_); refine box_event ?hg (N := 1) ?hd (cs := (tcells T p).toArray) (t := 29) ?hr ?_; (case hd => rfl); (case hg => rfl); (case hr => first | (go_simp; done) | (go_simp; rfl)); intro g hg w1 hbox hb; clear hg))
  have hcl := hT.cls
  have HCL := Aside0.mk hcl
  have hT1 := Aside0.mk (hT.below hb)
  have hbx1 : TBlk w1 g T p 29 := hbox
  have k4 : w1.cell? ⟨g, 259, none⟩ = some (.slice p.a4 T.action.length p.c4) := (TBlk.tail hbx1 hcl 1).trans rfl
  have k6 : w1.cell? ⟨g, 261, none⟩ = some (.slice p.a6 T.left.length p.c6) := (TBlk.tail hbx1 hcl 3).trans rfl
  refine start_ (n := 9) (S := fun w' => w'.cell? ⟨g, 259, none⟩ = some (.slice p.a4 T.action.length p.c4) ∧ w'.cell? ⟨g, 261, none⟩ = some (.slice p.a6 T.left.length p.c6)) (ds := []) #[false, false, false, false, false, false, false, false, false] (by kernel_rfl) rfl rfl ⟨k4, k6⟩ (fun hHeld => ?_)
  generalize HW : w1.drew = w5 at hHeld ⊢
  have hbx5 : TBlk w5 g T p 29 := by rw [← HW]; exact hbx1
  have hB5 : Below w.heap.size w w5 := by rw [← HW]; exact below_drew hb
  clear k4 k6
  refine pure_ (i := 0) (N := some 15) (v := ?_) (a' := ?_) #[true, false, false, false, false, false, false, false, false] rfl rfl (by kernel_rfl) (fun _ _ _ h => h) (Or.inl ⟨by rfl, ?_⟩) ?_ ?_
  rotate_left
  · intro w'
    go_simp
    with_reducible rfl
  rotate_left
  · simp only [Act.put, List.setIfInBounds_toArray, List.set_cons_zero, List.set_cons_succ, i64_w, i32_w]
    rfl
  refine pure_ (i := 3) (N := some 18) (v := ?_) (a' := ?_) #[true, false, false, true, false, false, false, false, false] rfl rfl (by kernel_rfl) (fun _ _ _ h => h) (Or.inl ⟨by rfl, ?_⟩) ?_ ?_
  rotate_left
  · intro w'
    go_simp
    with_reducible rfl
  rotate_left
  · simp only [Act.put, List.setIfInBounds_toArray, List.set_cons_zero, List.set_cons_succ, i64_w, i32_w]
    rfl
  refine take_ (i := 1) (N := some 16) (v := ?_) (a' := ?_) #[true, true, false, true, false, false, false, false, false] rfl rfl (by kernel_rfl) (fun _ _ _ h => h) (Or.inl ⟨by rfl, ?_⟩) hHeld ?_ ?_
  rotate_left
  · rintro w' ⟨s0, s1⟩
    go_simp
    with_reducible rfl
  rotate_left
  · simp only [Act.put, List.setIfInBounds_toArray, List.set_cons_zero, List.set_cons_succ, i64_w, i32_w]
    rfl
  refine pure_ (i := 2) (N := some 17) (v := ?_) (a' := ?_) #[true, true, true, true, false, false, false, false, false] rfl rfl (by kernel_rfl) (fun _ _ _ h => h) (Or.inl ⟨by rfl, ?_⟩) ?_ ?_
  rotate_left
  · intro w'
    go_simp
    with_reducible rfl
  rotate_left
  · simp only [Act.put, List.setIfInBounds_toArray, List.set_cons_zero, List.set_cons_succ, i64_w, i32_w]
    rfl
  refine take_ (i := 4) (N := some 19) (v := ?_) (a' := ?_) #[true, true, true, true, true, false, false, false, false] rfl rfl (by kernel_rfl) (fun _ _ _ h => h) (Or.inl ⟨by rfl, ?_⟩) hHeld ?_ ?_
  rotate_left
  · rintro w' ⟨s0, s1⟩
    go_simp
    with_reducible rfl
  rotate_left
  · simp only [Act.put, List.setIfInBounds_toArray, List.set_cons_zero, List.set_cons_succ, i64_w, i32_w]
    rfl
  refine pure_ (i := 5) (N := some 20) (v := ?_) (a' := ?_) #[true, true, true, true, true, true, false, false, false] rfl rfl (by kernel_rfl) (fun _ _ _ h => h) (Or.inl ⟨by rfl, ?_⟩) ?_ ?_
  rotate_left
  · intro w'
    go_simp
    with_reducible rfl
  rotate_left
  · simp only [Act.put, List.setIfInBounds_toArray, List.set_cons_zero, List.set_cons_succ, i64_w, i32_w]
    rfl
  refine one_ (i := 6) (N := some 3) #[true, true, true, true, true, true, true, false, false] rfl rfl (by kernel_rfl) (by decide) (fun K hK => ?_)
  refine value_ (w1 := ?_) (v := ?_) (by rfl) rfl ?_ ?_
  rotate_left 2
  · (go_simp; constructor <;> rfl)
  have hnew := blk_new w5 (.cells #[.int .i64 0] 3 (0, 0))
  have hbA := below_alloc (Below.refl w5.heap.size w5) (.cells #[.int .i64 0] 3 (0, 0))
  have hlt5 : g < w5.heap.size := blk_lt hbx5
  have hsz5 : w.heap.size ≤ w5.heap.size := hB5.size
  generalize w5.alloc (.cells #[.int .i64 0] 3 (0, 0)) = w6 at hnew hbA ⊢
  have hbx6 := blk_below hbx5 hbA
  have hB6 := below_step hB5 hbA
  obtain ⟨gs, hgs⟩ : ∃ gs, gs = w5.heap.size := ⟨_, rfl⟩
  rw [← hgs] at hnew hlt5 hsz5 ⊢
  clear hgs hbA hbx5 hB5
  have ks := (blk_cell hnew 0).trans (show _ = some (Value.int .i64 0) from rfl)
  have fs := blk_frozen hnew 0
  refine hK.out _ _ ⟨((TBlk.tail hbx6 HCL.out 1).trans rfl), ((TBlk.tail hbx6 HCL.out 3).trans rfl)⟩ (fun hHeld => ?_)
  clear hK K
  refine norm_ (a' := ?_) ?_ ?_
  rotate_left
  · show Act.put _ (some 3) _ = _
    simp only [Act.put, List.setIfInBounds_toArray, List.set_cons_zero, List.set_cons_succ, i64_w, i32_w]
    rfl
  refine one_ (i := 7) (N := none) #[true, true, true, true, true, true, true, true, false] rfl rfl (by kernel_rfl) (by decide) (fun K hK => ?_)
  refine skip_ (w1 := ?_) (by rfl) rfl ?_ ?_
  rotate_left
  · (go_simp; rfl)
  have hs7 := blk_put hnew 0 (.int .i64 (T.action.length : Int)) rfl
  have hbx7 : TBlk (w6.setCell ⟨gs, 0, none⟩ (.int .i64 (T.action.length : Int))) g T p 29 := (Below.heap_setCell w6 ⟨gs, 0, none⟩ _ g (Nat.ne_of_lt hlt5)).trans hbx6
  have hB7 := below_box hB6 hsz5 (.int .i64 (T.action.length : Int)) 0
  generalize w6.setCell ⟨gs, 0, none⟩ (.int .i64 (T.action.length : Int)) = w7 at hs7 hbx7 hB7 ⊢
  clear ks fs hnew hbx6 hB6
  refine hK.out _ _ ⟨((TBlk.tail hbx7 HCL.out 1).trans rfl), ((TBlk.tail hbx7 HCL.out 3).trans rfl)⟩ (fun hHeld => ?_)
  clear hK K
  refine pure_ (i := 8) (N := some 4) (v := ?_) (a' := ?_) #[true, true, true, true, true, true, true, true, true] rfl rfl (by kernel_rfl) (fun _ _ _ h => h) (Or.inl ⟨by rfl, ?_⟩) ?_ ?_
  rotate_left
  · intro w'
    go_simp
    with_reducible rfl
  rotate_left
  · simp only [Act.put, List.setIfInBounds_toArray, List.set_cons_zero, List.set_cons_succ, i64_w, i32_w]
    rfl
  refine done_ (by kernel_rfl) ?_
  clear hHeld
  obtain ⟨bd, hbd⟩ : ∃ b, dfaB T = b := ⟨_, rfl⟩
  have hdf := Aside0.mk hbd
  clear hbd
  cases bd
  · skip
    have HF := Aside0.mk (show mayB T = false from by unfold mayB mayA; rw [hdf.out]; simp only [Bool.and_false, Bool.false_and])
    go_wp2_with (first | ((with_reducible refine gate_dst (N := 22) rfl ?_); refine wpList_load_mid rfl 26 (.tmp 21) rfl g 0 rfl (dcells T p) _ (TBlk.rangeD hbx7 HCL.out) Try.underlying26 rfl (by rw [dcells_length HCL.out]; exact size26) ?_) | (go_at_call 51; refine (dfa_calls T p _ (HT0.out.below hB7).toDabR HL1.out HL2.out).mono ?_; rintro e w8 ⟨x, rfl, hx, hb8⟩; have hx0 : (x != 0) = true := bne_iff_ne.mpr (of_decide_eq_false (hx.trans hdf.out)); have hB8 := below_step hB7 hb8; have hbx8 := blk_below hbx7 hb8; have hs8 := blk_below hs7 hb8; have k3 := (TBlk.tail hbx8 HCL.out 0).trans (show _ = some (Value.slice p.a3 T.terms.length p.c3) from rfl); have k5 := (TBlk.tail hbx8 HCL.out 2).trans (show _ = some (Value.slice p.a5 T.goto.length p.c5) from rfl); have k7 := (TBlk.tail hbx8 HCL.out 4).trans (show _ = some (Value.slice p.a7 T.size.length p.c7) from rfl); have ks := (blk_cell hs8 0).trans (show _ = some (Value.int .i64 (T.action.length : Int)) from rfl)))
    go_ret
    exact ⟨by rw [HF.out]; first | done | rfl, hB8⟩
  skip
  by_cases c0 : 1 ≤ T.action.length
  rotate_left
  · have c0_0 : decide ((T.action.length : Int) < 1) = true := decide_eq_true (by omega)
    have c0_1 : decide (T.action.length < 1) = true := decide_eq_true (by omega)
    have C0 := Aside0.mk c0
    clear c0
    have HF := Aside0.mk (show mayB T = false from by unfold mayB mayA; rw [decide_eq_false C0.out]; simp only [Bool.and_false, Bool.false_and])
    go_wp2_with (first | ((with_reducible refine gate_dst (N := 22) rfl ?_); refine wpList_load_mid rfl 26 (.tmp 21) rfl g 0 rfl (dcells T p) _ (TBlk.rangeD hbx7 HCL.out) Try.underlying26 rfl (by rw [dcells_length HCL.out]; exact size26) ?_) | (go_at_call 51; refine (dfa_calls T p _ (HT0.out.below hB7).toDabR HL1.out HL2.out).mono ?_; rintro e w8 ⟨x, rfl, hx, hb8⟩; have hx0 : (x != 0) = false := bne_eq_false_iff_eq.mpr (of_decide_eq_true (hx.trans hdf.out)); have hB8 := below_step hB7 hb8; have hbx8 := blk_below hbx7 hb8; have hs8 := blk_below hs7 hb8; have k3 := (TBlk.tail hbx8 HCL.out 0).trans (show _ = some (Value.slice p.a3 T.terms.length p.c3) from rfl); have k5 := (TBlk.tail hbx8 HCL.out 2).trans (show _ = some (Value.slice p.a5 T.goto.length p.c5) from rfl); have k7 := (TBlk.tail hbx8 HCL.out 4).trans (show _ = some (Value.slice p.a7 T.size.length p.c7) from rfl); have ks := (blk_cell hs8 0).trans (show _ = some (Value.int .i64 (T.action.length : Int)) from rfl)))
    go_ret
    exact ⟨by rw [HF.out]; first | done | rfl, hB8⟩
  have c0_0 : decide ((T.action.length : Int) < 1) = false := decide_eq_false (by omega)
  have c0_1 : decide (T.action.length < 1) = false := decide_eq_false (by omega)
  have C0 := Aside0.mk c0
  clear c0
  by_cases c1 : T.action.length ≤ 512
  rotate_left
  · have c1_0 : decide (512 < (T.action.length : Int)) = true := decide_eq_true (by omega)
    have c1_1 : decide (512 < T.action.length) = true := decide_eq_true (by omega)
    have C1 := Aside0.mk c1
    clear c1
    have HF := Aside0.mk (show mayB T = false from by unfold mayB mayA; rw [decide_eq_false C1.out]; simp only [Bool.and_false, Bool.false_and])
    go_wp2_with (first | ((with_reducible refine gate_dst (N := 22) rfl ?_); refine wpList_load_mid rfl 26 (.tmp 21) rfl g 0 rfl (dcells T p) _ (TBlk.rangeD hbx7 HCL.out) Try.underlying26 rfl (by rw [dcells_length HCL.out]; exact size26) ?_) | (go_at_call 51; refine (dfa_calls T p _ (HT0.out.below hB7).toDabR HL1.out HL2.out).mono ?_; rintro e w8 ⟨x, rfl, hx, hb8⟩; have hx0 : (x != 0) = false := bne_eq_false_iff_eq.mpr (of_decide_eq_true (hx.trans hdf.out)); have hB8 := below_step hB7 hb8; have hbx8 := blk_below hbx7 hb8; have hs8 := blk_below hs7 hb8; have k3 := (TBlk.tail hbx8 HCL.out 0).trans (show _ = some (Value.slice p.a3 T.terms.length p.c3) from rfl); have k5 := (TBlk.tail hbx8 HCL.out 2).trans (show _ = some (Value.slice p.a5 T.goto.length p.c5) from rfl); have k7 := (TBlk.tail hbx8 HCL.out 4).trans (show _ = some (Value.slice p.a7 T.size.length p.c7) from rfl); have ks := (blk_cell hs8 0).trans (show _ = some (Value.int .i64 (T.action.length : Int)) from rfl)))
    go_ret
    exact ⟨by rw [HF.out]; first | done | rfl, hB8⟩
  have c1_0 : decide (512 < (T.action.length : Int)) = false := decide_eq_false (by omega)
  have c1_1 : decide (512 < T.action.length) = false := decide_eq_false (by omega)
  have C1 := Aside0.mk c1
  clear c1
  by_cases c2 : T.goto.length = T.action.length
  rotate_left
  · have c2_0 : ((T.goto.length : Int) != (T.action.length : Int)) = true := bne_iff_ne.mpr (by omega)
    have C2 := Aside0.mk c2
    clear c2
    have HF := Aside0.mk (show mayB T = false from by unfold mayB mayA; rw [decide_eq_false C2.out]; simp only [Bool.and_false, Bool.false_and])
    go_wp2_with (first | ((with_reducible refine gate_dst (N := 22) rfl ?_); refine wpList_load_mid rfl 26 (.tmp 21) rfl g 0 rfl (dcells T p) _ (TBlk.rangeD hbx7 HCL.out) Try.underlying26 rfl (by rw [dcells_length HCL.out]; exact size26) ?_) | (go_at_call 51; refine (dfa_calls T p _ (HT0.out.below hB7).toDabR HL1.out HL2.out).mono ?_; rintro e w8 ⟨x, rfl, hx, hb8⟩; have hx0 : (x != 0) = false := bne_eq_false_iff_eq.mpr (of_decide_eq_true (hx.trans hdf.out)); have hB8 := below_step hB7 hb8; have hbx8 := blk_below hbx7 hb8; have hs8 := blk_below hs7 hb8; have k3 := (TBlk.tail hbx8 HCL.out 0).trans (show _ = some (Value.slice p.a3 T.terms.length p.c3) from rfl); have k5 := (TBlk.tail hbx8 HCL.out 2).trans (show _ = some (Value.slice p.a5 T.goto.length p.c5) from rfl); have k7 := (TBlk.tail hbx8 HCL.out 4).trans (show _ = some (Value.slice p.a7 T.size.length p.c7) from rfl); have ks := (blk_cell hs8 0).trans (show _ = some (Value.int .i64 (T.action.length : Int)) from rfl)))
    go_ret
    exact ⟨by rw [HF.out]; first | done | rfl, hB8⟩
  have c2_0 : ((T.goto.length : Int) != (T.action.length : Int)) = false := bne_eq_false_iff_eq.mpr (by omega)
  have C2 := Aside0.mk c2
  clear c2
  by_cases c3 : 1 ≤ T.left.length
  rotate_left
  · have c3_0 : decide ((T.left.length : Int) < 1) = true := decide_eq_true (by omega)
    have c3_1 : decide (T.left.length < 1) = true := decide_eq_true (by omega)
    have C3 := Aside0.mk c3
    clear c3
    have HF := Aside0.mk (show mayB T = false from by unfold mayB mayA; rw [decide_eq_false C3.out]; simp only [Bool.and_false, Bool.false_and])
    go_wp2_with (first | ((with_reducible refine gate_dst (N := 22) rfl ?_); refine wpList_load_mid rfl 26 (.tmp 21) rfl g 0 rfl (dcells T p) _ (TBlk.rangeD hbx7 HCL.out) Try.underlying26 rfl (by rw [dcells_length HCL.out]; exact size26) ?_) | (go_at_call 51; refine (dfa_calls T p _ (HT0.out.below hB7).toDabR HL1.out HL2.out).mono ?_; rintro e w8 ⟨x, rfl, hx, hb8⟩; have hx0 : (x != 0) = false := bne_eq_false_iff_eq.mpr (of_decide_eq_true (hx.trans hdf.out)); have hB8 := below_step hB7 hb8; have hbx8 := blk_below hbx7 hb8; have hs8 := blk_below hs7 hb8; have k3 := (TBlk.tail hbx8 HCL.out 0).trans (show _ = some (Value.slice p.a3 T.terms.length p.c3) from rfl); have k5 := (TBlk.tail hbx8 HCL.out 2).trans (show _ = some (Value.slice p.a5 T.goto.length p.c5) from rfl); have k7 := (TBlk.tail hbx8 HCL.out 4).trans (show _ = some (Value.slice p.a7 T.size.length p.c7) from rfl); have ks := (blk_cell hs8 0).trans (show _ = some (Value.int .i64 (T.action.length : Int)) from rfl)))
    go_ret
    exact ⟨by rw [HF.out]; first | done | rfl, hB8⟩
  have c3_0 : decide ((T.left.length : Int) < 1) = false := decide_eq_false (by omega)
  have c3_1 : decide (T.left.length < 1) = false := decide_eq_false (by omega)
  have C3 := Aside0.mk c3
  clear c3
  by_cases c4 : T.left.length ≤ 128
  rotate_left
  · have c4_0 : decide (128 < (T.left.length : Int)) = true := decide_eq_true (by omega)
    have c4_1 : decide (128 < T.left.length) = true := decide_eq_true (by omega)
    have C4 := Aside0.mk c4
    clear c4
    have HF := Aside0.mk (show mayB T = false from by unfold mayB mayA; rw [decide_eq_false C4.out]; simp only [Bool.and_false, Bool.false_and])
    go_wp2_with (first | ((with_reducible refine gate_dst (N := 22) rfl ?_); refine wpList_load_mid rfl 26 (.tmp 21) rfl g 0 rfl (dcells T p) _ (TBlk.rangeD hbx7 HCL.out) Try.underlying26 rfl (by rw [dcells_length HCL.out]; exact size26) ?_) | (go_at_call 51; refine (dfa_calls T p _ (HT0.out.below hB7).toDabR HL1.out HL2.out).mono ?_; rintro e w8 ⟨x, rfl, hx, hb8⟩; have hx0 : (x != 0) = false := bne_eq_false_iff_eq.mpr (of_decide_eq_true (hx.trans hdf.out)); have hB8 := below_step hB7 hb8; have hbx8 := blk_below hbx7 hb8; have hs8 := blk_below hs7 hb8; have k3 := (TBlk.tail hbx8 HCL.out 0).trans (show _ = some (Value.slice p.a3 T.terms.length p.c3) from rfl); have k5 := (TBlk.tail hbx8 HCL.out 2).trans (show _ = some (Value.slice p.a5 T.goto.length p.c5) from rfl); have k7 := (TBlk.tail hbx8 HCL.out 4).trans (show _ = some (Value.slice p.a7 T.size.length p.c7) from rfl); have ks := (blk_cell hs8 0).trans (show _ = some (Value.int .i64 (T.action.length : Int)) from rfl)))
    go_ret
    exact ⟨by rw [HF.out]; first | done | rfl, hB8⟩
  have c4_0 : decide (128 < (T.left.length : Int)) = false := decide_eq_false (by omega)
  have c4_1 : decide (128 < T.left.length) = false := decide_eq_false (by omega)
  have C4 := Aside0.mk c4
  clear c4
  by_cases c5 : T.size.length = T.left.length
  rotate_left
  · have c5_0 : ((T.size.length : Int) != (T.left.length : Int)) = true := bne_iff_ne.mpr (by omega)
    have C5 := Aside0.mk c5
    clear c5
    have HF := Aside0.mk (show mayB T = false from by unfold mayB mayA; rw [decide_eq_false C5.out]; simp only [Bool.and_false, Bool.false_and])
    go_wp2_with (first | ((with_reducible refine gate_dst (N := 22) rfl ?_); refine wpList_load_mid rfl 26 (.tmp 21) rfl g 0 rfl (dcells T p) _ (TBlk.rangeD hbx7 HCL.out) Try.underlying26 rfl (by rw [dcells_length HCL.out]; exact size26) ?_) | (go_at_call 51; refine (dfa_calls T p _ (HT0.out.below hB7).toDabR HL1.out HL2.out).mono ?_; rintro e w8 ⟨x, rfl, hx, hb8⟩; have hx0 : (x != 0) = false := bne_eq_false_iff_eq.mpr (of_decide_eq_true (hx.trans hdf.out)); have hB8 := below_step hB7 hb8; have hbx8 := blk_below hbx7 hb8; have hs8 := blk_below hs7 hb8; have k3 := (TBlk.tail hbx8 HCL.out 0).trans (show _ = some (Value.slice p.a3 T.terms.length p.c3) from rfl); have k5 := (TBlk.tail hbx8 HCL.out 2).trans (show _ = some (Value.slice p.a5 T.goto.length p.c5) from rfl); have k7 := (TBlk.tail hbx8 HCL.out 4).trans (show _ = some (Value.slice p.a7 T.size.length p.c7) from rfl); have ks := (blk_cell hs8 0).trans (show _ = some (Value.int .i64 (T.action.length : Int)) from rfl)))
    go_ret
    exact ⟨by rw [HF.out]; first | done | rfl, hB8⟩
  have c5_0 : ((T.size.length : Int) != (T.left.length : Int)) = false := bne_eq_false_iff_eq.mpr (by omega)
  have C5 := Aside0.mk c5
  clear c5
  by_cases c6 : T.terms.length ≤ 64
  rotate_left
  · have c6_0 : decide (64 < (T.terms.length : Int)) = true := decide_eq_true (by omega)
    have c6_1 : decide (64 < T.terms.length) = true := decide_eq_true (by omega)
    have C6 := Aside0.mk c6
    clear c6
    have HF := Aside0.mk (show mayB T = false from by unfold mayB mayA; rw [decide_eq_false C6.out]; simp only [Bool.and_false, Bool.false_and])
    go_wp2_with (first | ((with_reducible refine gate_dst (N := 22) rfl ?_); refine wpList_load_mid rfl 26 (.tmp 21) rfl g 0 rfl (dcells T p) _ (TBlk.rangeD hbx7 HCL.out) Try.underlying26 rfl (by rw [dcells_length HCL.out]; exact size26) ?_) | (go_at_call 51; refine (dfa_calls T p _ (HT0.out.below hB7).toDabR HL1.out HL2.out).mono ?_; rintro e w8 ⟨x, rfl, hx, hb8⟩; have hx0 : (x != 0) = false := bne_eq_false_iff_eq.mpr (of_decide_eq_true (hx.trans hdf.out)); have hB8 := below_step hB7 hb8; have hbx8 := blk_below hbx7 hb8; have hs8 := blk_below hs7 hb8; have k3 := (TBlk.tail hbx8 HCL.out 0).trans (show _ = some (Value.slice p.a3 T.terms.length p.c3) from rfl); have k5 := (TBlk.tail hbx8 HCL.out 2).trans (show _ = some (Value.slice p.a5 T.goto.length p.c5) from rfl); have k7 := (TBlk.tail hbx8 HCL.out 4).trans (show _ = some (Value.slice p.a7 T.size.length p.c7) from rfl); have ks := (blk_cell hs8 0).trans (show _ = some (Value.int .i64 (T.action.length : Int)) from rfl)))
    go_ret
    exact ⟨by rw [HF.out]; first | done | rfl, hB8⟩
  have c6_0 : decide (64 < (T.terms.length : Int)) = false := decide_eq_false (by omega)
  have c6_1 : decide (64 < T.terms.length) = false := decide_eq_false (by omega)
  have C6 := Aside0.mk c6
  clear c6
  go_upto_region 4 with (first | ((with_reducible refine gate_dst (N := 22) rfl ?_); refine wpList_load_mid rfl 26 (.tmp 21) rfl g 0 rfl (dcells T p) _ (TBlk.rangeD hbx7 HCL.out) Try.underlying26 rfl (by rw [dcells_length HCL.out]; exact size26) ?_) | (go_at_call 51; refine (dfa_calls T p _ (HT0.out.below hB7).toDabR HL1.out HL2.out).mono ?_; rintro e w8 ⟨x, rfl, hx, hb8⟩; have hx0 : (x != 0) = false := bne_eq_false_iff_eq.mpr (of_decide_eq_true (hx.trans hdf.out)); have hB8 := below_step hB7 hb8; have hbx8 := blk_below hbx7 hb8; have hs8 := blk_below hs7 hb8; have k3 := (TBlk.tail hbx8 HCL.out 0).trans (show _ = some (Value.slice p.a3 T.terms.length p.c3) from rfl); have k5 := (TBlk.tail hbx8 HCL.out 2).trans (show _ = some (Value.slice p.a5 T.goto.length p.c5) from rfl); have k7 := (TBlk.tail hbx8 HCL.out 4).trans (show _ = some (Value.slice p.a7 T.size.length p.c7) from rfl); have ks := (blk_cell hs8 0).trans (show _ = some (Value.int .i64 (T.action.length : Int)) from rfl)))
  clear c0_0 c0_1 c1_0 c1_1 c2_0 c3_0 c3_1 c4_0 c4_1 c5_0 c6_0 c6_1 hx0 hx k3 k5 k7 ks hs7 hbx7 hB7
  obtain ⟨ad4, Ar4, cr4, ea4, ra4, _, _⟩ := at_LA HT0.out.r4 0 (by decide) (by have := C0.out; omega)
  obtain ⟨ad5, Ar5, cr5, ea5, ra5, _, _⟩ := at_L4 HT0.out.r5 0 (by decide) (by have := C0.out; have := C2.out; omega)
  simp only [show (0 : Int).toNat = 0 from rfl, Go.Addr.add, ↓reduceIte] at ra4 ra5
  rw [show (rd_LA T.action 0).length = tN T from rfl] at ra4
  rw [show (rd_L4 T.goto 0).length = nN T from rfl] at ra5
  have k4 : w8.cell? ⟨g, 259, none⟩ = some (.slice (some ad4) T.action.length p.c4) := (TBlk.tail hbx8 HCL.out 1).trans (by rw [← ea4]; rfl)
  have k5 : w8.cell? ⟨g, 260, none⟩ = some (.slice (some ad5) T.goto.length p.c5) := (TBlk.tail hbx8 HCL.out 2).trans (by rw [← ea5]; rfl)
  have ra4' := (hB8.cell (World.block_lt_of_cell? w _ ra4)).trans ra4
  have ra5' := (hB8.cell (World.block_lt_of_cell? w _ ra5)).trans ra5
  have q4 : ((0 : Int) < (T.action.length : Int)) = True := eq_true (by have := C0.out; omega)
  have q4n : (0 < T.action.length) = True := eq_true (by have := C0.out; omega)
  have q5 : ((0 : Int) < (T.goto.length : Int)) = True := eq_true (by have := C0.out; have := C2.out; omega)
  have q5n : (0 < T.goto.length) = True := eq_true (by have := C0.out; have := C2.out; omega)
  refine start_ (n := 13) (S := fun w' => w'.cell? ⟨g, 259, none⟩ = some (.slice (some ad4) T.action.length p.c4) ∧ w'.cell? ad4 = some (.slice Ar4 (tN T) cr4) ∧ w'.cell? ⟨g, 260, none⟩ = some (.slice (some ad5) T.goto.length p.c5) ∧ w'.cell? ad5 = some (.slice Ar5 (nN T) cr5)) (ds := []) #[false, false, false, false, false, false, false, false, false, false, false, false, false] (by kernel_rfl) rfl rfl ⟨k4, ra4', k5, ra5'⟩ (fun hHeld => ?_)
  generalize HW : w8.drew = w9 at hHeld ⊢
  have hbx9 : TBlk w9 g T p 29 := by rw [← HW]; exact hbx8
  have hs9 : w9.heap[gs]? = some (.cells #[.int .i64 (T.action.length : Int)] 3 (0, 0)) := by rw [← HW]; exact hs8
  have hB9 : Below w.heap.size w w9 := by rw [← HW]; exact below_drew hB8
  clear k4 k5 ra4' ra5' hbx8 hs8 hB8
  refine pure_ (i := 0) (N := some 61) (v := ?_) (a' := ?_) #[true, false, false, false, false, false, false, false, false, false, false, false, false] rfl rfl (by kernel_rfl) (fun _ _ _ h => h) (Or.inl ⟨by rfl, ?_⟩) ?_ ?_
  rotate_left
  · intro w'
    go_simp
    with_reducible rfl
  rotate_left
  · simp only [Act.put, List.setIfInBounds_toArray, List.set_cons_zero, List.set_cons_succ, i64_w, i32_w]
    rfl
  refine pure_ (i := 5) (N := some 66) (v := ?_) (a' := ?_) #[true, false, false, false, false, true, false, false, false, false, false, false, false] rfl rfl (by kernel_rfl) (fun _ _ _ h => h) (Or.inl ⟨by rfl, ?_⟩) ?_ ?_
  rotate_left
  · intro w'
    go_simp
    with_reducible rfl
  rotate_left
  · simp only [Act.put, List.setIfInBounds_toArray, List.set_cons_zero, List.set_cons_succ, i64_w, i32_w]
    rfl
  refine take_ (i := 1) (N := some 62) (v := ?_) (a' := ?_) #[true, true, false, false, false, true, false, false, false, false, false, false, false] rfl rfl (by kernel_rfl) (fun _ _ _ h => h) (Or.inl ⟨by rfl, ?_⟩) hHeld ?_ ?_
  rotate_left
  · rintro w' ⟨s0, s1, s2, s3⟩
    go_simp
    with_reducible rfl
  rotate_left
  · simp only [Act.put, List.setIfInBounds_toArray, List.set_cons_zero, List.set_cons_succ, i64_w, i32_w]
    rfl
  refine pure_ (i := 2) (N := some 63) (v := ?_) (a' := ?_) #[true, true, true, false, false, true, false, false, false, false, false, false, false] rfl rfl (by kernel_rfl) (fun _ _ _ h => h) (Or.inl ⟨by rfl, ?_⟩) ?_ ?_
  rotate_left
  · intro w'
    go_simp
    with_reducible rfl
  rotate_left
  · simp only [Act.put, List.setIfInBounds_toArray, List.set_cons_zero, List.set_cons_succ, i64_w, i32_w]
    rfl
  refine take_ (i := 3) (N := some 64) (v := ?_) (a' := ?_) #[true, true, true, true, false, true, false, false, false, false, false, false, false] rfl rfl (by kernel_rfl) (fun _ _ _ h => h) (Or.inl ⟨by rfl, ?_⟩) hHeld ?_ ?_
  rotate_left
  · rintro w' ⟨s0, s1, s2, s3⟩
    go_simp
    with_reducible rfl
  rotate_left
  · simp only [Act.put, List.setIfInBounds_toArray, List.set_cons_zero, List.set_cons_succ, i64_w, i32_w]
    rfl
  refine pure_ (i := 4) (N := some 65) (v := ?_) (a' := ?_) #[true, true, true, true, true, true, false, false, false, false, false, false, false] rfl rfl (by kernel_rfl) (fun _ _ _ h => h) (Or.inl ⟨by rfl, ?_⟩) ?_ ?_
  rotate_left
  · intro w'
    go_simp
    with_reducible rfl
  rotate_left
  · simp only [Act.put, List.setIfInBounds_toArray, List.set_cons_zero, List.set_cons_succ, i64_w, i32_w]
    rfl
  refine take_ (i := 6) (N := some 67) (v := ?_) (a' := ?_) #[true, true, true, true, true, true, true, false, false, false, false, false, false] rfl rfl (by kernel_rfl) (fun _ _ _ h => h) (Or.inl ⟨by rfl, ?_⟩) hHeld ?_ ?_
  rotate_left
  · rintro w' ⟨s0, s1, s2, s3⟩
    go_simp
    with_reducible rfl
  rotate_left
  · simp only [Act.put, List.setIfInBounds_toArray, List.set_cons_zero, List.set_cons_succ, i64_w, i32_w]
    rfl
  refine pure_ (i := 7) (N := some 68) (v := ?_) (a' := ?_) #[true, true, true, true, true, true, true, true, false, false, false, false, false] rfl rfl (by kernel_rfl) (fun _ _ _ h => h) (Or.inl ⟨by rfl, ?_⟩) ?_ ?_
  rotate_left
  · intro w'
    go_simp
    with_reducible rfl
  rotate_left
  · simp only [Act.put, List.setIfInBounds_toArray, List.set_cons_zero, List.set_cons_succ, i64_w, i32_w]
    rfl
  refine take_ (i := 8) (N := some 69) (v := ?_) (a' := ?_) #[true, true, true, true, true, true, true, true, true, false, false, false, false] rfl rfl (by kernel_rfl) (fun _ _ _ h => h) (Or.inl ⟨by rfl, ?_⟩) hHeld ?_ ?_
  rotate_left
  · rintro w' ⟨s0, s1, s2, s3⟩
    go_simp
    with_reducible rfl
  rotate_left
  · simp only [Act.put, List.setIfInBounds_toArray, List.set_cons_zero, List.set_cons_succ, i64_w, i32_w]
    rfl
  refine pure_ (i := 9) (N := some 70) (v := ?_) (a' := ?_) #[true, true, true, true, true, true, true, true, true, true, false, false, false] rfl rfl (by kernel_rfl) (fun _ _ _ h => h) (Or.inl ⟨by rfl, ?_⟩) ?_ ?_
  rotate_left
  · intro w'
    go_simp
    with_reducible rfl
  rotate_left
  · simp only [Act.put, List.setIfInBounds_toArray, List.set_cons_zero, List.set_cons_succ, i64_w, i32_w]
    rfl
  refine one_ (i := 10) (N := some 5) #[true, true, true, true, true, true, true, true, true, true, true, false, false] rfl rfl (by kernel_rfl) (by decide) (fun K hK => ?_)
  refine value_ (w1 := ?_) (v := ?_) (by rfl) rfl ?_ ?_
  rotate_left 2
  · (go_simp; constructor <;> rfl)
  have hnew10 := blk_new w9 (.cells #[.int .i64 0] 3 (0, 0))
  have hbA := below_alloc (Below.refl w9.heap.size w9) (.cells #[.int .i64 0] 3 (0, 0))
  have hlt10 : g < w9.heap.size := blk_lt hbx9
  have hlt10_gs : gs < w9.heap.size := blk_lt hs9
  have hsz10 : w.heap.size ≤ w9.heap.size := hB9.size
  generalize w9.alloc (.cells #[.int .i64 0] 3 (0, 0)) = w10 at hnew10 hbA ⊢
  have hbx10 := blk_below hbx9 hbA
  have hB10 := below_step hB9 hbA
  have n10_gs := blk_below hs9 hbA
  obtain ⟨gt, hgs⟩ : ∃ gs, gs = w9.heap.size := ⟨_, rfl⟩
  rw [← hgs] at hnew10 hlt10 hsz10 hlt10_gs ⊢
  clear hgs hbA hbx9 hB9
  have ks := (blk_cell hnew10 0).trans (show _ = some (Value.int .i64 0) from rfl)
  have fs := blk_frozen hnew10 0
  refine hK.out _ _ ⟨((TBlk.tail hbx10 HCL.out 1).trans (by rw [← ea4]; rfl)), ((hB10.cell (World.block_lt_of_cell? w _ ra4)).trans ra4), ((TBlk.tail hbx10 HCL.out 2).trans (by rw [← ea5]; rfl)), ((hB10.cell (World.block_lt_of_cell? w _ ra5)).trans ra5)⟩ (fun hHeld => ?_)
  clear hK K
  refine norm_ (a' := ?_) ?_ ?_
  rotate_left
  · show Act.put _ (some 5) _ = _
    simp only [Act.put, List.setIfInBounds_toArray, List.set_cons_zero, List.set_cons_succ, i64_w, i32_w]
    rfl
  refine one_ (i := 11) (N := none) #[true, true, true, true, true, true, true, true, true, true, true, true, false] rfl rfl (by kernel_rfl) (by decide) (fun K hK => ?_)
  refine skip_ (w1 := ?_) (by rfl) rfl ?_ ?_
  rotate_left
  · (go_simp; rfl)
  have hs11 := blk_put hnew10 0 (.int .i64 (tN T : Int)) rfl
  have hbx11 : TBlk (w10.setCell ⟨gt, 0, none⟩ (.int .i64 (tN T : Int))) g T p 29 := (Below.heap_setCell w10 ⟨gt, 0, none⟩ _ g (Nat.ne_of_lt hlt10)).trans hbx10
  have n11_gs := (Below.heap_setCell w10 ⟨gt, 0, none⟩ (.int .i64 (tN T : Int)) gs (Nat.ne_of_lt hlt10_gs)).trans n10_gs
  have hB11 := below_box hB10 hsz10 (.int .i64 (tN T : Int)) 0
  generalize w10.setCell ⟨gt, 0, none⟩ (.int .i64 (tN T : Int)) = w11 at hs11 hbx11 hB11 n11_gs ⊢
  clear ks fs hnew10 hbx10 hB10 n10_gs
  refine hK.out _ _ ⟨((TBlk.tail hbx11 HCL.out 1).trans (by rw [← ea4]; rfl)), ((hB11.cell (World.block_lt_of_cell? w _ ra4)).trans ra4), ((TBlk.tail hbx11 HCL.out 2).trans (by rw [← ea5]; rfl)), ((hB11.cell (World.block_lt_of_cell? w _ ra5)).trans ra5)⟩ (fun hHeld => ?_)
  clear hK K
  refine pure_ (i := 12) (N := some 6) (v := ?_) (a' := ?_) #[true, true, true, true, true, true, true, true, true, true, true, true, true] rfl rfl (by kernel_rfl) (fun _ _ _ h => h) (Or.inl ⟨by rfl, ?_⟩) ?_ ?_
  rotate_left
  · intro w'
    go_simp
    with_reducible rfl
  rotate_left
  · simp only [Act.put, List.setIfInBounds_toArray, List.set_cons_zero, List.set_cons_succ, i64_w, i32_w]
    rfl
  refine done_ (by kernel_rfl) ?_
  clear hHeld q4 q4n q5 q5n
  have hbx := hbx11
  have hB := hB11
  have hs := n11_gs
  have ht := hs11
  clear hbx11 hB11 n11_gs hs11
  have kt := (blk_cell ht 0).trans (show _ = some (Value.int .i64 (tN T : Int)) from rfl)
  by_cases n0 : 1 ≤ tN T
  rotate_left
  · have n0_0 : decide ((tN T : Int) < 1) = true := decide_eq_true (by omega)
    have n0_1 : decide (tN T < 1) = true := decide_eq_true (by omega)
    have N0 := Aside0.mk n0
    clear n0
    have HF := Aside0.mk (show mayB T = false from by unfold mayB mayN; rw [decide_eq_false N0.out]; simp only [Bool.and_false, Bool.false_and])
    go_wp2_with (fail)
    go_ret
    exact ⟨by rw [HF.out]; first | done | rfl, hB⟩
  have n0_0 : decide ((tN T : Int) < 1) = false := decide_eq_false (by omega)
  have n0_1 : decide (tN T < 1) = false := decide_eq_false (by omega)
  have N0 := Aside0.mk n0
  clear n0
  by_cases n1 : tN T ≤ 48
  rotate_left
  · have n1_0 : decide (48 < (tN T : Int)) = true := decide_eq_true (by omega)
    have n1_1 : decide (48 < tN T) = true := decide_eq_true (by omega)
    have N1 := Aside0.mk n1
    clear n1
    have HF := Aside0.mk (show mayB T = false from by unfold mayB mayN; rw [decide_eq_false N1.out]; simp only [Bool.and_false, Bool.false_and])
    go_wp2_with (fail)
    go_ret
    exact ⟨by rw [HF.out]; first | done | rfl, hB⟩
  have n1_0 : decide (48 < (tN T : Int)) = false := decide_eq_false (by omega)
  have n1_1 : decide (48 < tN T) = false := decide_eq_false (by omega)
  have N1 := Aside0.mk n1
  clear n1
  by_cases n2 : 2 ≤ nN T
  rotate_left
  · have n2_0 : decide ((nN T : Int) < 2) = true := decide_eq_true (by omega)
    have n2_1 : decide (nN T < 2) = true := decide_eq_true (by omega)
    have N2 := Aside0.mk n2
    clear n2
    have HF := Aside0.mk (show mayB T = false from by unfold mayB mayN; rw [decide_eq_false N2.out]; simp only [Bool.and_false, Bool.false_and])
    go_wp2_with (fail)
    go_ret
    exact ⟨by rw [HF.out]; first | done | rfl, hB⟩
  have n2_0 : decide ((nN T : Int) < 2) = false := decide_eq_false (by omega)
  have n2_1 : decide (nN T < 2) = false := decide_eq_false (by omega)
  have N2 := Aside0.mk n2
  clear n2
  by_cases n3 : nN T ≤ 48
  rotate_left
  · have n3_0 : decide (48 < (nN T : Int)) = true := decide_eq_true (by omega)
    have n3_1 : decide (48 < nN T) = true := decide_eq_true (by omega)
    have N3 := Aside0.mk n3
    clear n3
    have HF := Aside0.mk (show mayB T = false from by unfold mayB mayN; rw [decide_eq_false N3.out]; simp only [Bool.and_false, Bool.false_and])
    go_wp2_with (fail)
    go_ret
    exact ⟨by rw [HF.out]; first | done | rfl, hB⟩
  have n3_0 : decide (48 < (nN T : Int)) = false := decide_eq_false (by omega)
  have n3_1 : decide (48 < nN T) = false := decide_eq_false (by omega)
  have N3 := Aside0.mk n3
  clear n3
  go_upto_region 7 with (fail)
  clear n0_0 n0_1 n1_0 n1_1 n2_0 n2_1 n3_0 n3_1
  have hmf : ∀ (fn : Fn) (first cap : Array Value) (w : World), (Instr.makeFunc fn first cap).run Try.prog w = .ok (.func fn first cap) w := fun _ _ _ _ => rfl
  have k3 := (TBlk.tail hbx HCL.out 0).trans (show _ = some (Value.slice p.a3 T.terms.length p.c3) from rfl)
  have k2 := (TBlk.mid hbx HCL.out 1 (by decide)).trans (show _ = some (Value.slice p.a2 T.rule.length p.c2) from rfl)
  have hTT := Aside0.mk (HT0.out.below hB)
  obtain ⟨bt, hbt⟩ : ∃ b, T.terms.any (fun x => (decide (x < 0) || decide ((tN T : Int) ≤ x))) = b := ⟨_, rfl⟩
  have HBT := Aside0.mk hbt
  clear hbt
  obtain ⟨bu, hbu⟩ : ∃ b, T.rule.any (fun x => decide ((T.terms.length : Int) ≤ x)) = b := ⟨_, rfl⟩
  have HBU := Aside0.mk hbu
  clear hbu
  cases bt
  rotate_left
  · skip
    have HF := Aside0.mk (show mayB T = false from by unfold mayB mayT; rw [HBT.out]; simp only [Bool.not_true, Bool.and_false, Bool.false_and])
    go_wp2_with (first | (go_at_call 54; refine (has52 ⟨gt, 0, none⟩ (tN T : Int) T.terms p.a3 T.terms.length p.c3 _ rfl hTT.out.r3 hTT.out.l3 kt HL3.out true HBT.out).mono ?_; rintro e w11 ⟨rfl, rfl⟩; have G1 : True := trivial))
    go_ret
    exact ⟨by rw [HF.out]; first | done | rfl, hB⟩
  cases bu
  rotate_left
  · skip
    have HF := Aside0.mk (show mayB T = false from by unfold mayB mayU; rw [HBU.out]; simp only [Bool.not_true, Bool.and_false, Bool.false_and])
    go_wp2_with (first | (have g_ := G1; clear g_; go_at_call 54; refine (has53 g p.a3 T.terms.length p.c3 T.rule p.a2 T.rule.length p.c2 _ rfl hTT.out.r2 hTT.out.l2 k3 HL2.out true HBU.out).mono ?_; rintro e w11 ⟨rfl, rfl⟩) | (go_at_call 54; refine (has52 ⟨gt, 0, none⟩ (tN T : Int) T.terms p.a3 T.terms.length p.c3 _ rfl hTT.out.r3 hTT.out.l3 kt HL3.out false HBT.out).mono ?_; rintro e w11 ⟨rfl, rfl⟩; have G1 : True := trivial))
    go_ret
    exact ⟨by rw [HF.out]; first | done | rfl, hB⟩
  have k4 : w11.cell? ⟨g, 259, none⟩ = some (.slice (some ad4) T.action.length p.c4) := (TBlk.tail hbx HCL.out 1).trans (by rw [← ea4]; rfl)
  go_wp2_with (first | (have g_ := G1; clear g_; go_at_call 54; refine (has53 g p.a3 T.terms.length p.c3 T.rule p.a2 T.rule.length p.c2 _ rfl hTT.out.r2 hTT.out.l2 k3 HL2.out false HBU.out).mono ?_; rintro e w11 ⟨rfl, rfl⟩) | (go_at_call 54; refine (has52 ⟨gt, 0, none⟩ (tN T : Int) T.terms p.a3 T.terms.length p.c3 _ rfl hTT.out.r3 hTT.out.l3 kt HL3.out false HBT.out).mono ?_; rintro e w11 ⟨rfl, rfl⟩; have G1 : True := trivial))
  clear k2 k3 k4 kt G1
  go_loopg [101] (T.action.length + 1) (fun kq v101 w' => ∃ i : Int, v101 = .int .i64 i ∧ Aside0 (0 ≤ i) ∧ Aside0 (i ≤ (T.action.length : Int)) ∧ Aside0 ((kq : Int) + i = (T.action.length : Int) + 1) ∧ Aside0 (((T.action.zip T.goto).drop i.toNat).all (mayRow T) = mayR T) ∧ Aside0 (Below w11.heap.size w11 w'))
  case atStart => exact ⟨0, rfl, ⟨by decide⟩, ⟨by omega⟩, ⟨by omega⟩, ⟨rfl⟩, ⟨Below.refl _ _⟩⟩
  obtain ⟨i, rfl, hi0, hi1, hk, ha, hBr⟩ := hrel
  have hkk := hk.out
  obtain ⟨gO, hgO⟩ : ∃ gO, gO = gk := ⟨_, rfl⟩
  rw [← hgO] at hkk
  have hBw := below_step hB hBr.out
  have hsr := blk_below hs hBr.out
  have htr := blk_below ht hBr.out
  have hbxr := blk_below hbx hBr.out
  by_cases hlt : i < (T.action.length : Int)
  · have l2 : decide (i < (T.action.length : Int)) = true := decide_eq_true hlt
    have hwi : IntKind.i64.wrap (i + 1) = i + 1 := by have := hi0.out; have := C1.out; simp only [i64_w]; unfold wrap64; omega
    have p1 := eq_true hi0.out
    have q1 := eq_true hlt
    have q2 : (i < (T.goto.length : Int)) = True := eq_true (by rw [C2.out]; exact hlt)
    obtain ⟨ad4', Ar, cr, ea4', hx_, hlr, hCr⟩ := at_LA HT0.out.r4 i hi0.out hlt
    obtain rfl : ad4 = ad4' := by rw [ea4] at ea4'; injection ea4'
    obtain ⟨ad5', Ag, cg, ea5', hy_, hlg, hCg⟩ := at_L4 HT0.out.r5 i hi0.out (by rw [C2.out]; exact hlt)
    obtain rfl : ad5 = ad5' := by rw [ea5] at ea5'; injection ea5'
    have hd := zip_at T.action T.goto ([] : List S38) ([] : List Int) C2.out i hi0.out hlt
    have HLT := Aside0.mk hlt
    have HA2 := Aside0.mk (show (mayRow T (rd_LA T.action i, rd_L4 T.goto i) && ((T.action.zip T.goto).drop (i + 1).toNat).all (mayRow T)) = mayR T from by rw [← ha.out, hd]; rfl)
    clear hd hlt ea4' ea5' ha
    generalize rd_LA T.action i = row at hx_ hlr hCr HA2
    generalize rd_L4 T.goto i = grow at hy_ hlg hCg HA2
    have hxr := (hBw.cell (World.block_lt_of_cell? w _ hx_)).trans hx_
    have hyr := (hBw.cell (World.block_lt_of_cell? w _ hy_)).trans hy_
    have kt := (blk_cell htr 0).trans (show _ = some (Value.int .i64 (tN T : Int)) from rfl)
    have ks := (blk_cell hsr 0).trans (show _ = some (Value.int .i64 (T.action.length : Int)) from rfl)
    have k5 : wr.cell? ⟨g, 260, none⟩ = some (.slice (some ad5) T.goto.length p.c5) := (TBlk.tail hbxr HCL.out 2).trans (by rw [← ea5]; rfl)
    have HCr := Aside0.mk hCr
    have HCg := Aside0.mk hCg
    have HLg := Aside0.mk hlg
    clear hCr hCg hlr hlg
    by_cases r0 : row.length = tN T
    rotate_left
    · have r0_0 : ((row.length : Int) != (tN T : Int)) = true := bne_iff_ne.mpr (by omega)
      have R0 := Aside0.mk r0
      clear r0
      have HP := Aside0.mk (show mayRow T (row, grow) = false from by unfold mayRow; rw [decide_eq_false R0.out]; simp only [Bool.and_false, Bool.false_and])
      have HF := Aside0.mk (show mayB T = false from by unfold mayB; rw [← HA2.out, HP.out]; simp only [Bool.and_false, Bool.false_and])
      go_wp2_with (fail)
      go_ret
      exact ⟨by rw [HF.out]; first | done | rfl, hBw⟩
    have r0_0 : ((row.length : Int) != (tN T : Int)) = false := bne_eq_false_iff_eq.mpr (by omega)
    have R0 := Aside0.mk r0
    clear r0
    by_cases r1 : grow.length = nN T
    rotate_left
    · have r1_0 : ((grow.length : Int) != (nN T : Int)) = true := bne_iff_ne.mpr (by omega)
      have R1 := Aside0.mk r1
      clear r1
      have HP := Aside0.mk (show mayRow T (row, grow) = false from by unfold mayRow; rw [decide_eq_false R1.out]; simp only [Bool.and_false, Bool.false_and])
      have HF := Aside0.mk (show mayB T = false from by unfold mayB; rw [← HA2.out, HP.out]; simp only [Bool.and_false, Bool.false_and])
      go_wp2_with (fail)
      go_ret
      exact ⟨by rw [HF.out]; first | done | rfl, hBw⟩
    have r1_0 : ((grow.length : Int) != (nN T : Int)) = false := bne_eq_false_iff_eq.mpr (by omega)
    have R1 := Aside0.mk r1
    clear r1
    have HRL := Aside0.mk (show row.length ≤ 9223372036854775806 from by have := R0.out; have := N1.out; omega)
    have HGL := Aside0.mk (show grow.length ≤ 9223372036854775806 from by have := R1.out; have := N3.out; omega)
    go_wp2_with (fail)
    go_loopg [122] (row.length + 1) (fun kq v122 w' => ∃ k : Int, v122 = .int .i64 k ∧ Aside0 (0 ≤ k) ∧ Aside0 (k ≤ (row.length : Int)) ∧ Aside0 ((kq : Int) + k = (row.length : Int) + 1) ∧ Aside0 (actsOk T.action.length T.left.length k (row.drop k.toNat) = actsOk T.action.length T.left.length 0 row) ∧ Aside0 (Below w11.heap.size w11 w'))
    case atStart => exact ⟨0, rfl, ⟨by decide⟩, ⟨by omega⟩, ⟨by omega⟩, ⟨rfl⟩, hBr⟩
    clear hxr hyr r0_0 r1_0 hsr htr hbxr kt ks k5 hBr hBw
    obtain ⟨k, rfl, hk0, hk1, hkk2, ha2, hBr⟩ := hrel
    have hkk3 := hkk2.out
    have hBw := below_step hB hBr.out
    have hsr := blk_below hs hBr.out
    have htr := blk_below ht hBr.out
    have hbxr := blk_below hbx hBr.out
    by_cases hlt : k < (row.length : Int)
    · have l3 : decide (k < (row.length : Int)) = true := decide_eq_true hlt
      have hwk : IntKind.i64.wrap (k + 1) = k + 1 := by have := hk0.out; have := HRL.out; simp only [i64_w]; unfold wrap64; omega
      have p2 := eq_true hk0.out
      have q3 := eq_true hlt
      obtain ⟨ad3, ea3, hx30, hx31⟩ := at_T38 HCr.out k hk0.out hlt
      subst ea3
      have hx0 := (hBw.cell (World.block_lt_of_cell? w _ hx30)).trans hx30
      have hx1 := (hBw.cell (World.block_lt_of_cell? w _ hx31)).trans hx31
      have hd := drop_at row z38 k hk0.out hlt
      have HLK := Aside0.mk hlt
      have HA3 := Aside0.mk (show (actOk (rd_T38 row k) k T.action.length T.left.length && actsOk T.action.length T.left.length (k + 1) (row.drop (k + 1).toNat)) = actsOk T.action.length T.left.length 0 row from by rw [← ha2.out, hd]; rfl)
      clear hd hlt ha2 hx30 hx31
      generalize rd_T38 row k = y at hx0 hx1 HA3
      obtain ⟨ba, hba_⟩ : ∃ b, actOk y k T.action.length T.left.length = b := ⟨_, rfl⟩
      have HBA := Aside0.mk hba_
      clear hba_
      go_upto_region 19 with (first | ((with_reducible refine gate_dst (N := 12) rfl ?_); refine box_event ?hg (N := 12) ?hd (cs := #[.int .i64 0, .int .i64 0]) (t := 38) ?hr ?_; (case hd => rfl); (case hg => rfl); (case hr => first | (go_simp; done) | (go_simp; rfl)); intro ga hga w2 hbxa hba; have hgz : wr.heap.size ≤ ga := Nat.le_of_eq hga.symm; clear hga; have x0 := (blk_cell hbxa 0).trans (show _ = some (Value.int .i64 0) from rfl); have x1 := (blk_cell hbxa 1).trans (show _ = some (Value.int .i64 0) from rfl); have f0 := blk_frozen hbxa 0; have f1 := blk_frozen hbxa 1))
      have hbx3 := blk_put (blk_put hbxa 0 (.int .i64 y.f0) rfl) 1 (.int .i64 y.f1) rfl
      have hb3 := ((below_step hBr.out hba).setCell (p := ⟨ga, 0, none⟩) (Nat.le_trans hBr.out.size hgz) (.int .i64 y.f0)).setCell (p := ⟨ga, 1, none⟩) (Nat.le_trans hBr.out.size hgz) (.int .i64 y.f1)
      generalize (w2.setCell ⟨ga, 0, none⟩ (.int .i64 y.f0)).setCell ⟨ga, 1, none⟩ (.int .i64 y.f1) = w3 at hbx3 hb3 ⊢
      clear x0 x1 f0 f1 hbxa hba hgz hx0 hx1
      have x0 := (blk_cell hbx3 0).trans (show _ = some (Value.int .i64 y.f0) from rfl)
      have x1 := (blk_cell hbx3 1).trans (show _ = some (Value.int .i64 y.f1) from rfl)
      have ks := (blk_cell (blk_below hs hb3) 0).trans (show _ = some (Value.int .i64 (T.action.length : Int)) from rfl)
      cases ba
      · have HP := Aside0.mk (show mayRow T (row, grow) = false from by unfold mayRow; rw [← HA3.out, HBA.out]; simp only [Bool.and_false, Bool.false_and])
        have HF := Aside0.mk (show mayB T = false from by unfold mayB; rw [← HA2.out, HP.out]; simp only [Bool.and_false, Bool.false_and])
        go_wp2_with (first | (go_at_call 55; refine (tables_mayAct.calls y.f0 y.f1 k T.action.length T.left.length _ _ (actOk_some y k T.action.length T.left.length)).mono ?_; rintro e w4 ⟨he, hb4⟩; rw [HBA.out] at he; subst he; have hBw := below_step hB (below_step hb3 hb4)))
        go_ret
        exact ⟨by rw [HF.out]; first | done | rfl, hBw⟩
      go_wp2_with (first | (go_at_call 55; refine (tables_mayAct.calls y.f0 y.f1 k T.action.length T.left.length _ _ (actOk_some y k T.action.length T.left.length)).mono ?_; rintro e w4 ⟨he, hb4⟩; rw [HBA.out] at he; subst he; have hb5 := below_step hb3 hb4))
      go_roundg (gk - 1)
      case measure => have := HLK.out; have := hk0.out; omega
      case rel => exact ⟨k + 1, rfl, ⟨by have := hk0.out; omega⟩, ⟨by have := HLK.out; omega⟩, ⟨by have := HLK.out; omega⟩, ⟨by rw [← HA3.out, HBA.out]; rfl⟩, ⟨hb5⟩⟩
    have l3 : decide (k < (row.length : Int)) = false := decide_eq_false hlt
    have HR2 := Aside0.mk (show actsOk T.action.length T.left.length 0 row = true from by rw [← ha2.out, List.drop_eq_nil_of_le (by omega)]; rfl)
    clear hkk3 hkk2 ha2 hk0 hk1 hlt
    have k5 : wr.cell? ⟨g, 260, none⟩ = some (.slice (some ad5) T.goto.length p.c5) := (TBlk.tail hbxr HCL.out 2).trans (by rw [← ea5]; rfl)
    have hyr := (hBw.cell (World.block_lt_of_cell? w _ hy_)).trans hy_
    have ks := (blk_cell hsr 0).trans (show _ = some (Value.int .i64 (T.action.length : Int)) from rfl)
    obtain ⟨bg, hbg⟩ : ∃ b, grow.any (fun x => (decide (x < -1) || decide ((T.action.length : Int) ≤ x))) = b := ⟨_, rfl⟩
    have HBG := Aside0.mk hbg
    clear hbg
    cases bg
    rotate_left
    · have HP := Aside0.mk (show mayRow T (row, grow) = false from by unfold mayRow; rw [HBG.out]; simp only [Bool.not_true, Bool.and_false, Bool.false_and])
      have HF := Aside0.mk (show mayB T = false from by unfold mayB; rw [← HA2.out, HP.out]; simp only [Bool.and_false, Bool.false_and])
      go_wp2_with (first | (go_at_call 54; refine (has56 ⟨gs, 0, none⟩ (T.action.length : Int) grow Ag grow.length cg _ rfl (Kd.C_belowB HCg.out hBw rfl) HLg.out ks HGL.out true HBG.out).mono ?_; rintro e w4 ⟨rfl, rfl⟩))
      go_ret
      exact ⟨by rw [HF.out]; first | done | rfl, hBw⟩
    go_wp2_with (first | (go_at_call 54; refine (has56 ⟨gs, 0, none⟩ (T.action.length : Int) grow Ag grow.length cg _ rfl (Kd.C_belowB HCg.out hBw rfl) HLg.out ks HGL.out false HBG.out).mono ?_; rintro e w4 ⟨rfl, rfl⟩))
    go_roundg (gO - 1)
    case measure => have := HLT.out; have := hi0.out; omega
    case rel => exact ⟨i + 1, rfl, ⟨by have := hi0.out; omega⟩, ⟨by have := HLT.out; omega⟩, ⟨by have := HLT.out; omega⟩, ⟨by rw [← HA2.out, show mayRow T (row, grow) = true from by unfold mayRow; rw [decide_eq_true R0.out, decide_eq_true R1.out, HR2.out, HBG.out]; rfl]; rfl⟩, hBr⟩
  have l2 : decide (i < (T.action.length : Int)) = false := decide_eq_false hlt
  have HRR := Aside0.mk (show mayR T = true from by rw [← ha.out, List.drop_eq_nil_of_le (by rw [List.length_zip, C2.out, Nat.min_self]; omega)]; rfl)
  clear hkk hk ha hi0 hi1 hlt
  obtain ⟨ad6, ea6, _⟩ := Kd.at_int HT0.out.r6 0 (by decide) (by have := C3.out; omega)
  obtain ⟨ad7, ea7, r70⟩ := Kd.at_int HT0.out.r7 0 (by decide) (by have := C3.out; have := C5.out; omega)
  simp only [show (0 : Int).toNat = 0 from rfl, Go.Addr.add, ↓reduceIte] at r70
  have k6 : wr.cell? ⟨g, 261, none⟩ = some (.slice (some ad6) T.left.length p.c6) := (TBlk.tail hbxr HCL.out 3).trans (by rw [← ea6]; rfl)
  have k7 : wr.cell? ⟨g, 262, none⟩ = some (.slice (some ad7) T.size.length p.c7) := (TBlk.tail hbxr HCL.out 4).trans (by rw [← ea7]; rfl)
  have r71 := (hBw.cell (World.block_lt_of_cell? w _ r70)).trans r70
  have q7 : ((0 : Int) < (T.size.length : Int)) = True := eq_true (by have := C3.out; have := C5.out; omega)
  have q7n : (0 < T.size.length) = True := eq_true (by have := C3.out; have := C5.out; omega)
  go_wp2_with (fail)
  go_loopg [145] (T.left.length + 1) (fun kq v145 w' => ∃ i : Int, v145 = .int .i64 i ∧ Aside0 (0 ≤ i) ∧ Aside0 (i ≤ (T.left.length : Int)) ∧ Aside0 ((kq : Int) + i = (T.left.length : Int) + 1) ∧ Aside0 (prodsOk (nN T) i ((T.left.zip T.size).drop i.toNat) = mayP T) ∧ w' = wr)
  case atStart => exact ⟨0, rfl, ⟨by decide⟩, ⟨by omega⟩, ⟨by omega⟩, ⟨rfl⟩, rfl⟩
  obtain ⟨i, rfl, hi0, hi1, hk, ha, rfl⟩ := hrel
  have hkk := hk.out
  by_cases hlt : i < (T.left.length : Int)
  · have l4 : decide (i < (T.left.length : Int)) = true := decide_eq_true hlt
    have hwi : IntKind.i64.wrap (i + 1) = i + 1 := by have := hi0.out; have := C4.out; simp only [i64_w]; unfold wrap64; omega
    have p1 := eq_true hi0.out
    have q1 := eq_true hlt
    have q2 : (i < (T.size.length : Int)) = True := eq_true (by rw [C5.out]; exact hlt)
    obtain ⟨ad6', ea6', hx_⟩ := Kd.at_int HT0.out.r6 i hi0.out hlt
    obtain rfl : ad6 = ad6' := by rw [ea6] at ea6'; injection ea6'
    obtain ⟨ad7', ea7', hz_⟩ := Kd.at_int HT0.out.r7 i hi0.out (by rw [C5.out]; exact hlt)
    obtain rfl : ad7 = ad7' := by rw [ea7] at ea7'; injection ea7'
    have hd := zip_at T.left T.size (0 : Int) (0 : Int) C5.out i hi0.out hlt
    have HLT := Aside0.mk hlt
    have HA2 := Aside0.mk (show (prodOk (nN T) i (rd T.left i, rd T.size i) && prodsOk (nN T) (i + 1) ((T.left.zip T.size).drop (i + 1).toNat)) = mayP T from by rw [← ha.out, hd]; rfl)
    clear hd hlt ea6' ea7' ha
    have hxr := (hBw.cell (World.block_lt_of_cell? w _ hx_)).trans hx_
    have hzr := (hBw.cell (World.block_lt_of_cell? w _ hz_)).trans hz_
    clear hx_ hz_
    generalize rd T.left i = x at hxr HA2
    generalize rd T.size i = z at hzr HA2
    by_cases p0 : 0 ≤ x
    rotate_left
    · have p0_0 : decide (x < 0) = true := decide_eq_true (by omega)
      have P0 := Aside0.mk p0
      clear p0
      have HP := Aside0.mk (show prodOk (nN T) i (x, z) = false from by unfold prodOk; rw [decide_eq_false P0.out]; simp only [Bool.and_false, Bool.false_and])
      have HF := Aside0.mk (show mayB T = false from by unfold mayB; rw [← HA2.out, HP.out]; simp only [Bool.and_false, Bool.false_and])
      go_wp2_with (fail)
      go_ret
      exact ⟨by rw [HF.out]; first | done | rfl, hBw⟩
    have p0_0 : decide (x < 0) = false := decide_eq_false (by omega)
    have P0 := Aside0.mk p0
    clear p0
    by_cases p1 : x < (nN T : Int)
    rotate_left
    · have p1_0 : decide ((nN T : Int) ≤ x) = true := decide_eq_true (by omega)
      have P1 := Aside0.mk p1
      clear p1
      have HP := Aside0.mk (show prodOk (nN T) i (x, z) = false from by unfold prodOk; rw [decide_eq_false P1.out]; simp only [Bool.and_false, Bool.false_and])
      have HF := Aside0.mk (show mayB T = false from by unfold mayB; rw [← HA2.out, HP.out]; simp only [Bool.and_false, Bool.false_and])
      go_wp2_with (fail)
      go_ret
      exact ⟨by rw [HF.out]; first | done | rfl, hBw⟩
    have p1_0 : decide ((nN T : Int) ≤ x) = false := decide_eq_false (by omega)
    have P1 := Aside0.mk p1
    clear p1
    obtain ⟨b1, hb1⟩ : ∃ b, (x == 0) = b := ⟨_, rfl⟩
    obtain ⟨b2, hb2⟩ : ∃ b, (i == 0) = b := ⟨_, rfl⟩
    have HBX := Aside0.mk hb1
    have HBI := Aside0.mk hb2
    by_cases hbb : b1 = b2
    rotate_left
    · have HP := Aside0.mk (show prodOk (nN T) i (x, z) = false from by unfold prodOk; rw [HBX.out, HBI.out]; cases b1 <;> cases b2 <;> first | exact absurd rfl hbb | simp)
      cases b1 <;> cases b2 <;> first | exact absurd rfl hbb | skip
      all_goals
        clear hbb
        have HF := Aside0.mk (show mayB T = false from by unfold mayB; rw [← HA2.out, HP.out]; simp only [Bool.and_false, Bool.false_and])
        go_wp2_with (fail)
        go_ret
        exact ⟨by rw [HF.out]; first | done | rfl, hBw⟩
    subst hbb
    by_cases q0 : 0 ≤ z
    rotate_left
    · have q0_0 : decide (z < 0) = true := decide_eq_true (by omega)
      have Q0 := Aside0.mk q0
      clear q0
      have HP := Aside0.mk (show prodOk (nN T) i (x, z) = false from by unfold prodOk; rw [decide_eq_false Q0.out]; simp only [Bool.and_false, Bool.false_and])
      have HF := Aside0.mk (show mayB T = false from by unfold mayB; rw [← HA2.out, HP.out]; simp only [Bool.and_false, Bool.false_and])
      go_wp2_with (fail)
      go_ret
      exact ⟨by rw [HF.out]; first | done | rfl, hBw⟩
    have q0_0 : decide (z < 0) = false := decide_eq_false (by omega)
    have Q0 := Aside0.mk q0
    clear q0
    by_cases q1 : z ≤ 12
    rotate_left
    · have q1_0 : decide (12 < z) = true := decide_eq_true (by omega)
      have Q1 := Aside0.mk q1
      clear q1
      have HP := Aside0.mk (show prodOk (nN T) i (x, z) = false from by unfold prodOk; rw [decide_eq_false Q1.out]; simp only [Bool.and_false, Bool.false_and])
      have HF := Aside0.mk (show mayB T = false from by unfold mayB; rw [← HA2.out, HP.out]; simp only [Bool.and_false, Bool.false_and])
      go_wp2_with (fail)
      go_ret
      exact ⟨by rw [HF.out]; first | done | rfl, hBw⟩
    have q1_0 : decide (12 < z) = false := decide_eq_false (by omega)
    have Q1 := Aside0.mk q1
    clear q1
    go_wp2_with (fail)
    go_roundg (gk - 1)
    case measure => have := HLT.out; have := hi0.out; omega
    case rel => exact ⟨i + 1, rfl, ⟨by have := hi0.out; omega⟩, ⟨by have := HLT.out; omega⟩, ⟨by have := HLT.out; omega⟩, ⟨by rw [← HA2.out, show prodOk (nN T) i (x, z) = true from by unfold prodOk; rw [decide_eq_true P0.out, decide_eq_true P1.out, decide_eq_true Q0.out, decide_eq_true Q1.out, HBX.out, HBI.out]; cases b1 <;> rfl]; rfl⟩, rfl⟩
  have l4 : decide (i < (T.left.length : Int)) = false := decide_eq_false hlt
  have HPP := Aside0.mk (show mayP T = true from by rw [← ha.out, List.drop_eq_nil_of_le (by rw [List.length_zip, C5.out, Nat.min_self]; omega)]; rfl)
  clear hkk hk ha hi0 hi1 hlt
  have HF := Aside0.mk (show mayB T = (rd T.size 0 == 1) from by
    have e1 : mayA T = true := by unfold mayA; rw [hdf.out, decide_eq_true C0.out, decide_eq_true C1.out, decide_eq_true C2.out, decide_eq_true C3.out, decide_eq_true C4.out, decide_eq_true C5.out, decide_eq_true C6.out]; rfl
    have e2 : mayN T = true := by unfold mayN; rw [decide_eq_true N0.out, decide_eq_true N1.out, decide_eq_true N2.out, decide_eq_true N3.out]; rfl
    have e3 : mayT T = true := by unfold mayT; rw [HBT.out]; rfl
    have e4 : mayU T = true := by unfold mayU; rw [HBU.out]; rfl
    unfold mayB mayS
    rw [e1, e2, e3, e4, HRR.out, HPP.out]
    rfl)
  go_wp2_with (fail)
  go_ret
  exact ⟨by rw [HF.out]; first | done | rfl, hBw⟩
set_option maxHeartbeats 8000000 in
set_option maxRecDepth 100000 in
theorem Check_calls (T : Tab) (p : TL) (w : World) (hT : TabR w T p) (hl1 : T.next.length ≤ 9223372036854775806) (hl2 : T.rule.length ≤ 9223372036854775806) (hl3 : T.terms.length ≤ 9223372036854775806) :
    Calls Try.prog 13 #[.agg (tcells T p).toArray] w fun e w' => e = .returned (.int .i64 (if mayB T = true then 0 else 220)) ∧ Below w.heap.size w w' := by
  have HT0 := Aside0.mk hT
  have HCL := Aside0.mk hT.cls
  obtain ⟨b, hb_⟩ : ∃ b, mayB T = b := ⟨_, rfl⟩
  have HM := Aside0.mk hb_
  rw [hb_]
  clear hb_ hT
  go_enter Try.func13, Try.ntmps13
  cases b
  all_goals
    go_wp2_with (first | ((with_reducible refine gate_dst (N := 1) rfl ?_); refine box_event ?hg (N := 1) ?hd (cs := (tcells T p).toArray) (t := 29) ?hr ?_; (case hd => rfl); (case hg => rfl); (case hr => first | (go_simp; done) | (go_simp; rfl)); intro g hg w1 hbox hb; clear hg; have hbx1 : TBlk w1 g T p 29 := hbox) | ((with_reducible refine gate_dst (N := 3) rfl ?_); refine wpList_load_mid rfl 29 (.tmp 1) rfl g 0 rfl (tcells T p) _ (TBlk.rangeT hbx1) Try.underlying29 rfl (by rw [tcells_length HCL.out]; exact size29) ?_) | (go_at_call 30; refine (may_calls T p _ (HT0.out.below hb) hl1 hl2 hl3).mono ?_; rintro e w2 ⟨he, hb2⟩; rw [HM.out] at he; subst he; have hB2 := below_step hb hb2))
    go_ret
    exact ⟨rfl, hB2⟩
end Go.Proofs.Ytkeekganabafbaa.X
end
