/- FrameOrder. -/
import Derived.Test.YtkndghbognhocaaXFrOrd
import Derived.Test.YtkndghbognhocaaXx0
namespace Go.Proofs.Ytkndghbognhocaa.X
open Go.RowKit Go.Proofs.YtkndghbognhocaaW.PrintWords Go.Proofs.YtkndghbognhocaaW.PrintLast Go.Proofs.YtkndghbognhocaaW.PrintMore Go.Proofs.Ytkndghbognhocaa.Pure
attribute [local go_sem] max2_int min2_int max_two min_two max_three min_three max_four min_four
set_option linter.unusedVariables false
set_option linter.unusedSimpArgs false
def okR (l : List (List Int)) : Bool := l.all okB
theorem okR_rd {l : List (List Int)} (h : okR l = true) (i : Int) (h0 : 0 ≤ i) (h1 : i < (l.length : Int)) : okB (rd_L1 l i) = true := by
  obtain ⟨j, rfl⟩ := Int.eq_ofNat_of_zero_le h0
  unfold okR at h
  have hj : j < l.length := by omega
  have : rd_L1 l (j : Int) = l[j] := by unfold rd_L1; rw [Int.toNat_natCast, List.getD_eq_getElem?_getD, List.getElem?_eq_getElem hj]; rfl
  rw [this]
  exact List.all_eq_true.1 h _ (List.getElem_mem hj)
theorem fk49_arg {w W : World} {A : Option Addr} {n c : Nat} {x : List Int} (hC : CB w A n x) (hn : x.length = n) (hc : n ≤ c) (hB : Below w.heap.size w W) : Kd.FK k49 W (fun k => k < w.heap.size) (⟨x, true, 0⟩ : S49) [.slice A n c, .bool true, .int .i64 0] := by
  subst hn
  exact k49_mkF W _ ⟨x, true, 0⟩ hc (Kd.F_below (Kd.C_F (Kd.heap_int .u8) hC) hB)
theorem fk49_err (W : World) : Kd.FK k49 W (fun _ => False) (⟨[], false, 4⟩ : S49) [.slice none 0 0, .bool false, .int .i64 4] :=
  Kd.FK_mono (fk49 (base := 0) (okr := fun _ => True) false 4 (Kd.R_nil _ _ _ _ _)) (fun k hk => by cases hk)
def incunablelaw28_FrameOrder.f (k : Nat) (l0 l1 : List (List Int)) : Option Bool := if okR l0 = true ∧ okR l1 = true ∧ l0.length ≤ 140737488351232 ∧ l1.length ≤ 140737488351232 then some true else none
set_option maxHeartbeats 16000000 in
set_option maxRecDepth 100000 in
theorem incunablelaw28_FrameOrder.calls (k : Nat) (A0 : Option Addr) (c0 : Nat) (l0 : List (List Int)) (A1 : Option Addr) (c1 : Nat) (l1 : List (List Int)) (r : Bool) (w : World) (hr0 : Kd.C (Kd.slice 5 (Kd.int .u8)) w A0 l0.length l0) (hc0 : l0.length ≤ c0) (hr1 : Kd.C (Kd.slice 5 (Kd.int .u8)) w A1 l1.length l1) (hc1 : l1.length ≤ c1) (h : incunablelaw28_FrameOrder.f k l0 l1 = some r) :
    Calls Try.prog 6 #[.slice A0 l0.length c0, .slice A1 l1.length c1] w fun e w' => e = .returned (.bool r) ∧ Below w.heap.size w w' := by
  unfold incunablelaw28_FrameOrder.f at h
  by_cases hok : okR l0 = true ∧ okR l1 = true ∧ l0.length ≤ 140737488351232 ∧ l1.length ≤ 140737488351232
  · rw [if_pos hok] at h
    injection h with h
    subst h
    obtain ⟨ho0, ho1, hn0, hn1⟩ := hok
    have s0 := (Sep.add (W := w) (N := 0) (Xs := []) ⟨Nat.zero_le _, fun _ => 0, fun i X h => by cases h⟩ (tHP w.heap.size w.heap.size (.slice none 0 0) []) ⟨fun k hk => ⟨Nat.zero_le _, hk⟩, Kd.N_nil _ _ _ _ _⟩).add (tB w.heap.size (.slice none 0 0) []) (show (Kd.int .u8).R 5 _ _ _ _ _ from Kd.R_nil _ _ _ _ _)
    have S0 := Aside0.mk s0
    have HN0 := Aside0.mk hn0
    have HN1 := Aside0.mk hn1
    clear s0 hn0 hn1
    go_enter Try.func6, Try.ntmps6
    go_wp2
    go_loopg [5, 6, 7] 21 (fun kq v5 v6 v7 w' => ∃ (i : Int) (B : List Int) (Wn : List S49) (Ab Aw : Option Addr) (cb cw : Nat), v7 = .int .i64 i ∧ v5 = .slice Ab B.length cb ∧ v6 = .slice Aw Wn.length cw ∧ Aside0 (0 ≤ i) ∧ Aside0 ((kq : Int) + i = 21) ∧ Aside0 ((B.length : Int) ≤ i * 1063) ∧ Aside0 ((Wn.length : Int) ≤ 2 * i) ∧ Aside0 (BI B) ∧ Aside0 (∀ o ∈ Wn, o.f0.length ≤ 1048576) ∧ Aside0 (Ord B Wn) ∧
      Aside0 (Sep w' w'.heap.size [tHP w.heap.size w.heap.size (.slice Aw Wn.length cw) Wn, tB w.heap.size (.slice Ab B.length cb) B]) ∧ Aside0 (Below w.heap.size w w'))
    case atStart => exact ⟨0, [], [], none, none, 0, 0, rfl, rfl, rfl, ⟨by decide⟩, ⟨by decide⟩, ⟨by simp⟩, ⟨by simp⟩, ⟨BI_nil⟩, ⟨fun o h => by cases h⟩, ⟨Ord.nil⟩, S0, ⟨Below.refl _ _⟩⟩
    case round =>
      obtain ⟨i, B, Wn, Ab, Aw, cb, cw, rfl, rfl, rfl, hi0, hk, hBl, hWl, hBB, hWf, hOrd, hS, hB⟩ := hrel
      clear S0
      have hkk := hk.out
      obtain ⟨gO, hgO⟩ : ∃ gO, gO = gk := ⟨_, rfl⟩
      rw [← hgO] at hkk
      by_cases hc : i < (l0.length : Int) ∧ i < 20
      · have d1 : decide (i < (l0.length : Int)) = true := decide_eq_true hc.1
        have d2 : decide (i < 20) = true := decide_eq_true hc.2
        have hwi : IntKind.i64.wrap (i + 1) = i + 1 := by have := hi0.out; simp only [i64_w]; unfold wrap64; omega
        have p1 := eq_true hi0.out
        have q1 := eq_true hc.1
        have HC := Aside0.mk hc
        have hokx := okR_rd ho0 i hi0.out hc.1
        obtain ⟨adx, A1x, c1x, ex, hxx, hlx, hCx0⟩ := at_L1 hr0 i hi0.out hc.1
        cases ex
        generalize hx0_ : rd_L1 l0 i = x0 at hokx hxx hlx hCx0
        obtain ⟨m, hm⟩ : ∃ m, m = min x0.length 1000 := ⟨_, rfl⟩
        have hmin : (if (1000 : Int) < (x0.length : Int) then 1000 else (x0.length : Int)) = (m : Int) := by split <;> omega
        obtain ⟨hcut, hCt⟩ := CB_to A1x c1x x0 m (by omega) hlx
        have hxl : (x0.take m).length = m := by rw [List.length_take]; omega
        have hxB : BI (x0.take m) := BI_take (okB_BI hokx) m
        have hCx := hCt w hCx0
        have hm5 : m ≤ 1000 := by omega
        have hmc : m ≤ c1x := by omega
        have HX0 := Aside0.mk hx0_
        generalize x0.take m = x at hxl hxB hCx
        have HM := Aside0.mk hm5
        have HMC := Aside0.mk hmc
        have HX := Aside0.mk hxl
        clear hc hm hm5 hmc hxl hokx hlx hx0_ hCt
        by_cases hbt : i < (l1.length : Int)
        · have d3 : decide (i < (l1.length : Int)) = true := decide_eq_true hbt
          have q2 := eq_true hbt
          have hokb := okR_rd ho1 i hi0.out hbt
          obtain ⟨adb, A2, c2, eb, hxb, hlb, hCb⟩ := at_L1 hr1 i hi0.out hbt
          cases eb
          generalize hbr : rd_L1 l1 i = bt at hokb hxb hlb hCb
          have hbtB := okB_BI hokb
          have hbtL := okB_len hokb
          have HBT := Aside0.mk hbtL
          clear hbr hokb hbt hbtL
          go_wp2
          go_loopg [5, 8, 9] 51 (fun kq v5 v8 v9 w' => ∃ (q : Int) (J : List Int) (o : Bool) (Aj : Option Addr) (cj : Nat), v9 = .int .i64 q ∧ v8 = .bool o ∧ v5 = .slice Aj (B ++ J).length cj ∧ Aside0 (o = decide (J ≠ [])) ∧ Aside0 (0 ≤ q) ∧ Aside0 ((kq : Int) + q = 51) ∧ Aside0 (q ≤ 50) ∧ Aside0 ((J.length : Int) ≤ q) ∧ Aside0 (∀ y ∈ J, y ≠ 73) ∧ Aside0 (BI J) ∧
            Aside0 (Sep w' w'.heap.size [tHP w.heap.size w.heap.size (.slice Aw Wn.length cw) Wn, tB w.heap.size (.slice Aj (B ++ J).length cj) (B ++ J)]) ∧ Aside0 (Below w.heap.size w w'))
          case atStart => exact ⟨0, [], false, Ab, cb, rfl, rfl, by rw [List.append_nil], ⟨rfl⟩, ⟨by decide⟩, ⟨by decide⟩, ⟨by decide⟩, ⟨by simp⟩, ⟨fun y h => by cases h⟩, ⟨BI_nil⟩, ⟨by rw [List.append_nil]; exact hS.out⟩, hB⟩
          case round =>
            obtain ⟨q, J, o, Aj, cj, rfl, rfl, rfl, hoJ, hq0, hqk, hq50, hJl, hJ73, hJB, hSj, hBj⟩ := hrel
            clear hS hB
            have hqkk := hqk.out
            have hxb2 : wr.cell? (adb.add i.toNat) = some (.slice A2 bt.length c2) := (hBj.out.cell (World.block_lt_of_cell? w _ hxb)).trans hxb
            by_cases hqc : q < (bt.length : Int) ∧ q < 50
            · have e1 : decide (q < (bt.length : Int)) = true := decide_eq_true hqc.1
              have e2 : decide (q < 50) = true := decide_eq_true hqc.2
              have hwq : IntKind.i64.wrap (q + 1) = q + 1 := by have := hq0.out; simp only [i64_w]; unfold wrap64; omega
              have p3 := eq_true hq0.out
              have q3 := eq_true hqc.1
              obtain ⟨ad2, ec, hxc⟩ := Kd.at_int (Kd.C_belowB hCb hBj.out rfl) q hq0.out hqc.1
              cases ec
              have hy : 0 ≤ rd bt q ∧ rd bt q < 256 := by
                obtain ⟨z, rfl⟩ := Int.eq_ofNat_of_zero_le hq0.out
                rw [rd_at bt z (by omega)]
                exact hbtB _ (List.getElem_mem (by omega))
              generalize rd bt q = y at hxc hy
              have HQC := Aside0.mk hqc
              clear hqc
              by_cases h73 : y = 73
              · have e3 : (y != 73) = false := by rw [bne_eq_false_iff_eq]; exact h73
                go_wp2
                go_roundg (gk - 1)
                case measure => have := HQC.out.2; omega
                case rel => exact ⟨q + 1, J, o, Aj, cj, rfl, rfl, rfl, hoJ, ⟨by have := hq0.out; omega⟩, ⟨by have := HQC.out.2; omega⟩, ⟨by have := HQC.out.2; omega⟩, ⟨by have := hJl.out; omega⟩, hJ73, hJB, hSj, hBj⟩
              · have e3 : (y != 73) = true := by rw [bne_iff_ne]; exact h73
                have HY := Aside0.mk hy
                clear hy
                go_wp2_with (first | ((with_reducible refine gate_builtin (b := .append) (xs := #[.tmp 49, .tmp 57]) rfl ?_); at_builtin; obtain ⟨SB, hSB, hbSB, hup⟩ := hSj.out.upd 1 _ rfl; have hSB' : (Kd.int .u8).R 5 wr w.heap.size SB (.slice Aj (B ++ J).length cj) (B ++ J) := hSB; refine Kd.R_append (Kd.int .u8) (w0 := w) w.heap.size rfl (.tmp 49) (.tmp 57) 22 5 (.int .u8 0) 1 rfl Try.underlying22 info5 rfl (by decide) (by omega) (.slice Aj (B ++ J).length cj) (B ++ J) y [.int .u8 y] (fun k => SB k ∨ wr.heap.size ≤ k) (fun _ => False) (by first | rfl | (simp only [List.length_append]; rfl)) rfl rfl (fun _ h => h.elim) (fun k hk => .inr hk) (Kd.R_mono hSB' (fun k hk => .inl hk)) hBj.out hBj.out.size (by have h5 := hBl.out; have h6 := hJl.out; have h7 := HC.out.2; have h8 := HQC.out.2; rw [List.length_append]; omega) ?_; intro v9 w9 hR9 hB9 hg9 hat9; obtain ⟨A9, c9, e9⟩ := Kd.R_slice hR9; rw [List.length_append, List.length_singleton] at e9; subst e9; have s9 := hup w9 (tB w.heap.size (.slice A9 ((B ++ J).length + 1) c9) (B ++ J ++ [y])) (Kept.of_grown hg9 (Kept.refl _ _) (fun k hk => .inl (hSB'.1 k hk))) (show (Kd.int .u8).R 5 w9 w.heap.size (fun k => (SB k ∨ wr.heap.size ≤ k) ∧ k < w9.heap.size) _ _ from Kd.R_mono (Kd.R_bound hR9) (fun k hk => ⟨hk.1, hk.2.2.1⟩))))
                go_roundg (gk - 1)
                case measure => have := HQC.out.2; omega
                case rel => exact ⟨q + 1, J ++ [y], true, A9, c9, rfl, rfl, (congrArg (fun t => Value.slice A9 t c9) (by simp only [List.length_append, List.length_singleton]; omega)), ⟨(decide_eq_true (show J ++ [y] ≠ [] from by simp)).symm⟩, ⟨by have := hq0.out; omega⟩, ⟨by have := HQC.out.2; omega⟩, ⟨by have := HQC.out.2; omega⟩, ⟨by have := hJl.out; rw [List.length_append, List.length_singleton]; omega⟩, ⟨fun z hz => by rcases List.mem_append.1 hz with h5 | h5; exact hJ73.out z h5; rw [List.mem_singleton.1 h5]; exact h73⟩, ⟨BI_append hJB.out (BI_cons HY.out.1 HY.out.2 BI_nil)⟩, ⟨by rw [← List.append_assoc, List.length_append, List.length_singleton]; exact s9⟩, ⟨hB9⟩⟩
            · have d12 : (decide (q < (bt.length : Int)) = true ∧ decide (q < 50) = false) ∨ decide (q < (bt.length : Int)) = false := by
                by_cases h1 : q < (bt.length : Int)
                · exact .inl ⟨decide_eq_true h1, decide_eq_false (fun h2 => hqc ⟨h1, h2⟩)⟩
                · exact .inr (decide_eq_false h1)
              have hJ50 : J.length ≤ 50 := by have := hJl.out; have := hq50.out; omega
              clear hqc
              rcases d12 with ⟨e1, e2⟩ | e1
              all_goals
                cases o
                · have HJe := Aside0.mk (show J = [] from by have h5 := hoJ.out; by_cases h6 : J = []; exact h6; rw [decide_eq_true h6] at h5; cases h5)
                  go_wp2
                  obtain ⟨w2, hw2⟩ : ∃ w2, w2 = wr := ⟨_, rfl⟩
                  obtain ⟨V, hV_⟩ : ∃ V, V = Wn := ⟨_, rfl⟩
                  have HV := Aside0.mk (show V = Wn ++ (if J = [] then [] else [⟨[], false, 4⟩]) from by rw [hV_, if_pos HJe.out, List.append_nil])
                  have HVl := Aside0.mk (show (V.length : Int) ≤ 2 * i + 1 from by rw [hV_]; have := hWl.out; omega)
                  have HVf := Aside0.mk (show ∀ o ∈ V, o.f0.length ≤ 1048576 from by rw [hV_]; exact hWf.out)
                  obtain ⟨Av, hAv⟩ : ∃ Av, Av = Aw := ⟨_, rfl⟩
                  obtain ⟨cv, hcv⟩ : ∃ cv, cv = cw := ⟨_, rfl⟩
                  have hS2 := Aside0.mk (show Sep w2 w2.heap.size [tHP w.heap.size w.heap.size (.slice Av V.length cv) V, tB w.heap.size (.slice Aj (B ++ J).length cj) (B ++ J)] from by rw [hw2, hV_, hAv, hcv]; exact hSj.out)
                  have hB2 := Aside0.mk (show Below w.heap.size w w2 from by rw [hw2]; exact hBj.out)
                  have hxx2 : w2.cell? (adx.add i.toNat) = some (.slice A1x x0.length c1x) := (hB2.out.cell (World.block_lt_of_cell? w _ hxx)).trans hxx
                  rw [← hw2, ← hAv, ← hcv, ← hV_]
                  clear hw2 hV_ hAv hcv
                  refine start_ (n := 12) (S := fun w' => w'.cell? (adx.add i.toNat) = some (.slice A1x x0.length c1x)) (ds := []) #[false, false, false, false, false, false, false, false, false, false, false, false] (by kernel_rfl) rfl rfl (hxx2) (fun hHeld => ?_)
                  generalize HW : w2.drew = w5 at hHeld ⊢
                  have s5 : Sep w5 w5.heap.size [tHP w.heap.size w.heap.size (.slice Av V.length cv) V, tB w.heap.size (.slice Aj (B ++ J).length cj) (B ++ J)] := by rw [← HW]; exact hS2.out.below (below_drew (Below.refl _ _))
                  have hB5 : Below w.heap.size w w5 := by rw [← HW]; exact below_drew hB2.out
                  refine pure_ (i := 0) (N := some 64) (v := ?_) (a' := ?_) #[true, false, false, false, false, false, false, false, false, false, false, false] rfl rfl (by kernel_rfl) (fun _ _ _ h => h) (Or.inl ⟨by rfl, ?_⟩) ?_ ?_
                  rotate_left
                  · intro w'
                    go_simp
                    with_reducible rfl
                  rotate_left
                  · simp only [Act.put, List.setIfInBounds_toArray, List.set_cons_zero, List.set_cons_succ, i64_w, i32_w]
                    rfl
                  refine pure_ (i := 1) (N := some 65) (v := ?_) (a' := ?_) #[true, true, false, false, false, false, false, false, false, false, false, false] rfl rfl (by kernel_rfl) (fun _ _ _ h => h) (Or.inl ⟨by rfl, ?_⟩) ?_ ?_
                  rotate_left
                  · intro w'
                    go_simp
                    with_reducible rfl
                  rotate_left
                  · simp only [Act.put, List.setIfInBounds_toArray, List.set_cons_zero, List.set_cons_succ, i64_w, i32_w]
                    rfl
                  refine pure_ (i := 2) (N := some 66) (v := ?_) (a' := ?_) #[true, true, true, false, false, false, false, false, false, false, false, false] rfl rfl (by kernel_rfl) (fun _ _ _ h => h) (Or.inl ⟨by rfl, ?_⟩) ?_ ?_
                  rotate_left
                  · intro w'
                    go_simp
                    with_reducible rfl
                  rotate_left
                  · simp only [Act.put, List.setIfInBounds_toArray, List.set_cons_zero, List.set_cons_succ, i64_w, i32_w]
                    rfl
                  refine pure_ (i := 4) (N := some 68) (v := ?_) (a' := ?_) #[true, true, true, false, true, false, false, false, false, false, false, false] rfl rfl (by kernel_rfl) (fun _ _ _ h => h) (Or.inl ⟨by rfl, ?_⟩) ?_ ?_
                  rotate_left
                  · intro w'
                    go_simp
                    with_reducible rfl
                  rotate_left
                  · simp only [Act.put, List.setIfInBounds_toArray, List.set_cons_zero, List.set_cons_succ, i64_w, i32_w]
                    rfl
                  refine pure_ (i := 5) (N := some 69) (v := ?_) (a' := ?_) #[true, true, true, false, true, true, false, false, false, false, false, false] rfl rfl (by kernel_rfl) (fun _ _ _ h => h) (Or.inl ⟨by rfl, ?_⟩) ?_ ?_
                  rotate_left
                  · intro w'
                    go_simp
                    with_reducible rfl
                  rotate_left
                  · simp only [Act.put, List.setIfInBounds_toArray, List.set_cons_zero, List.set_cons_succ, i64_w, i32_w]
                    rfl
                  refine pure_ (i := 6) (N := some 70) (v := ?_) (a' := ?_) #[true, true, true, false, true, true, true, false, false, false, false, false] rfl rfl (by kernel_rfl) (fun _ _ _ h => h) (Or.inl ⟨by rfl, ?_⟩) ?_ ?_
                  rotate_left
                  · intro w'
                    go_simp
                    with_reducible rfl
                  rotate_left
                  · simp only [Act.put, List.setIfInBounds_toArray, List.set_cons_zero, List.set_cons_succ, i64_w, i32_w]
                    rfl
                  refine take_ (i := 3) (N := some 67) (v := ?_) (a' := ?_) #[true, true, true, true, true, true, true, false, false, false, false, false] rfl rfl (by kernel_rfl) (fun _ _ _ h => h) (Or.inl ⟨by rfl, ?_⟩) hHeld ?_ ?_
                  rotate_left
                  · intro w' s0
                    go_simp
                    with_reducible rfl
                  rotate_left
                  · simp only [Act.put, List.setIfInBounds_toArray, List.set_cons_zero, List.set_cons_succ, i64_w, i32_w]
                    rfl
                  refine take_ (i := 7) (N := some 71) (v := ?_) (a' := ?_) #[true, true, true, true, true, true, true, true, false, false, false, false] rfl rfl (by kernel_rfl) (fun _ _ _ h => h) (Or.inl ⟨by rfl, ?_⟩) hHeld ?_ ?_
                  rotate_left
                  · intro w' s0
                    go_simp
                    with_reducible rfl
                  rotate_left
                  · simp only [Act.put, List.setIfInBounds_toArray, List.set_cons_zero, List.set_cons_succ, i64_w, i32_w]
                    rfl
                  refine pure_ (i := 8) (N := some 72) (v := ?_) (a' := ?_) #[true, true, true, true, true, true, true, true, true, false, false, false] rfl rfl (by kernel_rfl) (fun _ _ _ h => h) (Or.inl ⟨by rfl, ?_⟩) ?_ ?_
                  rotate_left
                  · intro w'
                    go_simp
                    with_reducible rfl
                  rotate_left
                  · simp only [Act.put, List.setIfInBounds_toArray, List.set_cons_zero, List.set_cons_succ, i64_w, i32_w]
                    rfl
                  refine pure_ (i := 9) (N := some 73) (v := ?_) (a' := ?_) #[true, true, true, true, true, true, true, true, true, true, false, false] rfl rfl (by kernel_rfl) (fun _ _ _ h => h) (Or.inl ⟨by rfl, ?_⟩) ?_ ?_
                  rotate_left
                  · intro w'
                    go_simp
                    with_reducible rfl
                  rotate_left
                  · simp only [Act.put, List.setIfInBounds_toArray, List.set_cons_zero, List.set_cons_succ, i64_w, i32_w]
                    rfl
                  refine pure_ (i := 10) (N := some 74) (v := ?_) (a' := ?_) #[true, true, true, true, true, true, true, true, true, true, true, false] rfl rfl (by kernel_rfl) (fun _ _ _ h => h) (Or.inl ⟨by rfl, ?_⟩) ?_ ?_
                  rotate_left
                  · intro w'
                    go_simp
                    with_reducible rfl
                  rotate_left
                  · simp only [Act.put, List.setIfInBounds_toArray, List.set_cons_zero, List.set_cons_succ, i64_w, i32_w]
                    rfl
                  refine pure_ (i := 11) (N := some 10) (v := ?_) (a' := ?_) #[true, true, true, true, true, true, true, true, true, true, true, true] rfl rfl (by kernel_rfl) (fun _ _ _ h => h) (Or.inl ⟨by rfl, ?_⟩) ?_ ?_
                  rotate_left
                  · intro w'
                    go_simp
                    with_reducible rfl
                  rotate_left
                  · simp only [Act.put, List.setIfInBounds_toArray, List.set_cons_zero, List.set_cons_succ, i64_w, i32_w]
                    rfl
                  refine done_ (by kernel_rfl) ?_
                  go_wp2_with (first | (go_at_call 11; refine (Frame_okn x hxB A1x m c1x _ HX.out (Kd.C_belowB hCx hB5 rfl) HMC.out (by have := HM.out; omega)).mono ?_; rintro e w7 ⟨v7, rfl, hR7, hb7⟩; obtain ⟨Af, cf, e7⟩ := Kd.R_slice hR7; subst e7; have s7 := s5.below hb7; have hB7 := below_step hB5 hb7; clear s5) | ((with_reducible refine gate_builtin (b := .append) (xs := #[.tmp 82, .tmp 83]) rfl ?_); at_builtin; obtain ⟨SB, hSB, hbSB, hup⟩ := s7.upd 1 _ rfl; have hSB' : (Kd.int .u8).R 5 w7 w.heap.size SB (.slice Aj (B ++ J).length cj) (B ++ J) := hSB; refine Kd.R_append_rows_wide (Kd.int .u8) (w0 := w) w.heap.size rfl (.tmp 82) (.tmp 83) 22 5 (.int .u8 0) 1 rfl Try.underlying22 info5 rfl (by decide) (by omega) (.slice Aj (B ++ J).length cj) (B ++ J) (frameL x) Af (frameL x).length cf (fun k => SB k ∨ w7.heap.size ≤ k) (fun _ => False) (by first | rfl | (simp only [List.length_append]; rfl)) rfl (Kd.R_mono hSB' (fun k hk => .inl hk)) (Kd.R_reads' hR7).2.2 (fun _ _ h => h) (fun _ h => h.elim) (fun k hk => .inr hk) hB7 hB7.size (by have h5 := hBl.out; have h7 := HC.out.2; have h8 := HX.out; have h9 := HM.out; rw [List.length_append, frameL_length]; omega) ?_; intro v8 w8 hR8 hB8 hg8 hat8; obtain ⟨A8, c8, e8⟩ := Kd.R_slice hR8; subst e8; have s8 := hup w8 (tB w.heap.size (.slice A8 (B ++ J ++ frameL x).length c8) (B ++ J ++ frameL x)) (Kept.of_grown hg8 (Kept.refl _ _) (fun k hk => .inl (hSB'.1 k hk))) (show (Kd.int .u8).R 5 w8 w.heap.size (fun k => (SB k ∨ w7.heap.size ≤ k) ∧ k < w8.heap.size) _ _ from Kd.R_mono (Kd.R_bound hR8) (fun k hk => ⟨hk.1, hk.2.2.1⟩)); clear hR8 hup hSB hSB' s7) | ((with_reducible refine gate_builtin (b := .append) (xs := #[.tmp 85, .tmp 88]) rfl ?_); at_builtin; obtain ⟨SW, hSW, hbSW, hup⟩ := s8.upd 0 _ rfl; have hSW' : (∀ k, k < w.heap.size → SW k) ∧ HN w8 w.heap.size SW (.slice Av V.length cv) V := hSW; refine Kd.N_append k49 (w0 := w) w.heap.size rfl (.tmp 85) (.tmp 88) 44 49 (.agg #[.slice none 0 0, .bool false, .int .i64 0]) 40 rfl Try.underlying44 info49 rfl (by decide) (by omega) _ V _ _ (fun k => SW k ∨ w8.heap.size ≤ k) (fun k => k < w.heap.size) rfl rfl (fk49_arg hCx HX.out HMC.out hB8) (fun k hk => ⟨.inl (hSW'.1 k hk), fun he => Nat.not_lt.2 (Kd.N_base hSW'.2 k he.symm) hk⟩) (fun k hk => .inr hk) (Kd.N_mono hSW'.2 (fun k hk => .inl hk)) hB8 hB8.size (by have h5 := HVl.out; have h6 := HC.out.2; omega) ?_; intro v9 w9 hN9 hB9 hg9 hat9; obtain ⟨A9, c9, e9⟩ := Kd.N_slice hN9; rw [List.length_append, List.length_singleton] at e9; subst e9; have s9 := hup w9 (tHP w.heap.size w.heap.size (.slice A9 (V.length + 1) c9) (V ++ [⟨x, true, 0⟩])) (Kept.of_grown hg9 (Kept.refl _ _) (fun k hk => .inl (hSW'.2.1 k hk))) ⟨fun k hk => ⟨.inl (hSW'.1 k hk), Nat.lt_of_lt_of_le hk hB9.size⟩, Kd.N_bound hN9⟩; clear hN9 hup hSW hSW' s8))
                  go_roundg (gO - 1)
                  case measure => have := HC.out.2; omega
                  case rel => exact ⟨i + 1, B ++ J ++ frameL x, V ++ [⟨x, true, 0⟩], A8, A9, c8, c9, rfl, (congrArg (fun t => Value.slice A8 t c8) (by first | rfl | (simp only [List.length_append]; omega))), (by rw [List.length_append, List.length_singleton]), ⟨by have := hi0.out; omega⟩, ⟨by have := HC.out.2; omega⟩, ⟨by have h5 := hBl.out; have h8 := HX.out; have h9 := HM.out; rw [List.length_append, List.length_append, frameL_length]; omega⟩, ⟨by have h5 := HVl.out; rw [List.length_append, List.length_singleton]; omega⟩, ⟨BI_append (BI_append hBB.out hJB.out) (frameL_BI hxB)⟩, ⟨fun o ho => by rcases List.mem_append.1 ho with h5 | h5; exact HVf.out o h5; rw [List.mem_singleton.1 h5]; dsimp only; have := HX.out; have := HM.out; omega⟩, ⟨by rw [HV.out]; exact hOrd.out.more J x hJ73.out (by have := HX.out; have := HM.out; omega)⟩, ⟨by rw [List.length_append, List.length_singleton]; exact s9⟩, ⟨hB9⟩⟩
                · have HJe := Aside0.mk (show ¬ J = [] from fun h6 => by have h5 := hoJ.out; rw [decide_eq_false (fun h7 => h7 h6)] at h5; cases h5)
                  go_upto_region 16 with (first | ((with_reducible refine gate_builtin (b := .append) (xs := #[.tmp 60, .tmp 62]) rfl ?_); at_builtin; obtain ⟨SW, hSW, hbSW, hup⟩ := hSj.out.upd 0 _ rfl; have hSW' : (∀ k, k < w.heap.size → SW k) ∧ HN wr w.heap.size SW (.slice Aw Wn.length cw) Wn := hSW; refine Kd.N_append k49 (w0 := w) w.heap.size rfl (.tmp 60) (.tmp 62) 44 49 (.agg #[.slice none 0 0, .bool false, .int .i64 0]) 40 rfl Try.underlying44 info49 rfl (by decide) (by omega) _ Wn _ _ (fun k => SW k ∨ wr.heap.size ≤ k) (fun _ => False) rfl rfl (fk49_err wr) (fun _ h => h.elim) (fun k hk => .inr hk) (Kd.N_mono hSW'.2 (fun k hk => .inl hk)) hBj.out hBj.out.size (by have h5 := hWl.out; have h6 := HC.out.2; omega) ?_; intro v6 w6 hN6 hB6 hg6 hat6; obtain ⟨A6, c6, e6⟩ := Kd.N_slice hN6; rw [List.length_append, List.length_singleton] at e6; subst e6; have s6 := hup w6 (tHP w.heap.size w.heap.size (.slice A6 (Wn.length + 1) c6) (Wn ++ [⟨[], false, 4⟩])) (Kept.of_grown hg6 (Kept.refl _ _) (fun k hk => .inl (hSW'.2.1 k hk))) ⟨fun k hk => ⟨.inl (hSW'.1 k hk), Nat.lt_of_lt_of_le hk hB6.size⟩, Kd.N_bound hN6⟩; clear hN6 hup hSW hSW'))
                  have hw2 : True := trivial
                  generalize HV_ : Wn ++ [⟨[], false, 4⟩] = V at s6
                  have HV := Aside0.mk (show V = Wn ++ (if J = [] then [] else [⟨[], false, 4⟩]) from by rw [← HV_, if_neg HJe.out])
                  have HVn := Aside0.mk (show V.length = Wn.length + 1 from by rw [← HV_, List.length_append, List.length_singleton])
                  have HVl := Aside0.mk (show (V.length : Int) ≤ 2 * i + 1 from by rw [HVn.out]; have := hWl.out; omega)
                  have HVf := Aside0.mk (show ∀ o ∈ V, o.f0.length ≤ 1048576 from by rw [← HV_]; intro o ho; rcases List.mem_append.1 ho with h5 | h5; exact hWf.out o h5; rw [List.mem_singleton.1 h5]; simp)
                  rw [← HVn.out] at s6
                  rw [← HVn.out]
                  have hS2 := Aside0.mk s6
                  have hB2 := Aside0.mk hB6
                  have hxx2 : w6.cell? (adx.add i.toNat) = some (.slice A1x x0.length c1x) := (hB2.out.cell (World.block_lt_of_cell? w _ hxx)).trans hxx
                  clear HV_ s6 hB6
                  refine start_ (n := 12) (S := fun w' => w'.cell? (adx.add i.toNat) = some (.slice A1x x0.length c1x)) (ds := []) #[false, false, false, false, false, false, false, false, false, false, false, false] (by kernel_rfl) rfl rfl (hxx2) (fun hHeld => ?_)
                  generalize HW : w6.drew = w5 at hHeld ⊢
                  have s5 : Sep w5 w5.heap.size [tHP w.heap.size w.heap.size (.slice A6 V.length c6) V, tB w.heap.size (.slice Aj (B ++ J).length cj) (B ++ J)] := by rw [← HW]; exact hS2.out.below (below_drew (Below.refl _ _))
                  have hB5 : Below w.heap.size w w5 := by rw [← HW]; exact below_drew hB2.out
                  refine pure_ (i := 0) (N := some 64) (v := ?_) (a' := ?_) #[true, false, false, false, false, false, false, false, false, false, false, false] rfl rfl (by kernel_rfl) (fun _ _ _ h => h) (Or.inl ⟨by rfl, ?_⟩) ?_ ?_
                  rotate_left
                  · intro w'
                    go_simp
                    with_reducible rfl
                  rotate_left
                  · simp only [Act.put, List.setIfInBounds_toArray, List.set_cons_zero, List.set_cons_succ, i64_w, i32_w]
                    rfl
                  refine pure_ (i := 1) (N := some 65) (v := ?_) (a' := ?_) #[true, true, false, false, false, false, false, false, false, false, false, false] rfl rfl (by kernel_rfl) (fun _ _ _ h => h) (Or.inl ⟨by rfl, ?_⟩) ?_ ?_
                  rotate_left
                  · intro w'
                    go_simp
                    with_reducible rfl
                  rotate_left
                  · simp only [Act.put, List.setIfInBounds_toArray, List.set_cons_zero, List.set_cons_succ, i64_w, i32_w]
                    rfl
                  refine pure_ (i := 2) (N := some 66) (v := ?_) (a' := ?_) #[true, true, true, false, false, false, false, false, false, false, false, false] rfl rfl (by kernel_rfl) (fun _ _ _ h => h) (Or.inl ⟨by rfl, ?_⟩) ?_ ?_
                  rotate_left
                  · intro w'
                    go_simp
                    with_reducible rfl
                  rotate_left
                  · simp only [Act.put, List.setIfInBounds_toArray, List.set_cons_zero, List.set_cons_succ, i64_w, i32_w]
                    rfl
                  refine pure_ (i := 4) (N := some 68) (v := ?_) (a' := ?_) #[true, true, true, false, true, false, false, false, false, false, false, false] rfl rfl (by kernel_rfl) (fun _ _ _ h => h) (Or.inl ⟨by rfl, ?_⟩) ?_ ?_
                  rotate_left
                  · intro w'
                    go_simp
                    with_reducible rfl
                  rotate_left
                  · simp only [Act.put, List.setIfInBounds_toArray, List.set_cons_zero, List.set_cons_succ, i64_w, i32_w]
                    rfl
                  refine pure_ (i := 5) (N := some 69) (v := ?_) (a' := ?_) #[true, true, true, false, true, true, false, false, false, false, false, false] rfl rfl (by kernel_rfl) (fun _ _ _ h => h) (Or.inl ⟨by rfl, ?_⟩) ?_ ?_
                  rotate_left
                  · intro w'
                    go_simp
                    with_reducible rfl
                  rotate_left
                  · simp only [Act.put, List.setIfInBounds_toArray, List.set_cons_zero, List.set_cons_succ, i64_w, i32_w]
                    rfl
                  refine pure_ (i := 6) (N := some 70) (v := ?_) (a' := ?_) #[true, true, true, false, true, true, true, false, false, false, false, false] rfl rfl (by kernel_rfl) (fun _ _ _ h => h) (Or.inl ⟨by rfl, ?_⟩) ?_ ?_
                  rotate_left
                  · intro w'
                    go_simp
                    with_reducible rfl
                  rotate_left
                  · simp only [Act.put, List.setIfInBounds_toArray, List.set_cons_zero, List.set_cons_succ, i64_w, i32_w]
                    rfl
                  refine take_ (i := 3) (N := some 67) (v := ?_) (a' := ?_) #[true, true, true, true, true, true, true, false, false, false, false, false] rfl rfl (by kernel_rfl) (fun _ _ _ h => h) (Or.inl ⟨by rfl, ?_⟩) hHeld ?_ ?_
                  rotate_left
                  · intro w' s0
                    go_simp
                    with_reducible rfl
                  rotate_left
                  · simp only [Act.put, List.setIfInBounds_toArray, List.set_cons_zero, List.set_cons_succ, i64_w, i32_w]
                    rfl
                  refine take_ (i := 7) (N := some 71) (v := ?_) (a' := ?_) #[true, true, true, true, true, true, true, true, false, false, false, false] rfl rfl (by kernel_rfl) (fun _ _ _ h => h) (Or.inl ⟨by rfl, ?_⟩) hHeld ?_ ?_
                  rotate_left
                  · intro w' s0
                    go_simp
                    with_reducible rfl
                  rotate_left
                  · simp only [Act.put, List.setIfInBounds_toArray, List.set_cons_zero, List.set_cons_succ, i64_w, i32_w]
                    rfl
                  refine pure_ (i := 8) (N := some 72) (v := ?_) (a' := ?_) #[true, true, true, true, true, true, true, true, true, false, false, false] rfl rfl (by kernel_rfl) (fun _ _ _ h => h) (Or.inl ⟨by rfl, ?_⟩) ?_ ?_
                  rotate_left
                  · intro w'
                    go_simp
                    with_reducible rfl
                  rotate_left
                  · simp only [Act.put, List.setIfInBounds_toArray, List.set_cons_zero, List.set_cons_succ, i64_w, i32_w]
                    rfl
                  refine pure_ (i := 9) (N := some 73) (v := ?_) (a' := ?_) #[true, true, true, true, true, true, true, true, true, true, false, false] rfl rfl (by kernel_rfl) (fun _ _ _ h => h) (Or.inl ⟨by rfl, ?_⟩) ?_ ?_
                  rotate_left
                  · intro w'
                    go_simp
                    with_reducible rfl
                  rotate_left
                  · simp only [Act.put, List.setIfInBounds_toArray, List.set_cons_zero, List.set_cons_succ, i64_w, i32_w]
                    rfl
                  refine pure_ (i := 10) (N := some 74) (v := ?_) (a' := ?_) #[true, true, true, true, true, true, true, true, true, true, true, false] rfl rfl (by kernel_rfl) (fun _ _ _ h => h) (Or.inl ⟨by rfl, ?_⟩) ?_ ?_
                  rotate_left
                  · intro w'
                    go_simp
                    with_reducible rfl
                  rotate_left
                  · simp only [Act.put, List.setIfInBounds_toArray, List.set_cons_zero, List.set_cons_succ, i64_w, i32_w]
                    rfl
                  refine pure_ (i := 11) (N := some 10) (v := ?_) (a' := ?_) #[true, true, true, true, true, true, true, true, true, true, true, true] rfl rfl (by kernel_rfl) (fun _ _ _ h => h) (Or.inl ⟨by rfl, ?_⟩) ?_ ?_
                  rotate_left
                  · intro w'
                    go_simp
                    with_reducible rfl
                  rotate_left
                  · simp only [Act.put, List.setIfInBounds_toArray, List.set_cons_zero, List.set_cons_succ, i64_w, i32_w]
                    rfl
                  refine done_ (by kernel_rfl) ?_
                  go_wp2_with (first | (go_at_call 11; refine (Frame_okn x hxB A1x m c1x _ HX.out (Kd.C_belowB hCx hB5 rfl) HMC.out (by have := HM.out; omega)).mono ?_; rintro e w7 ⟨v7, rfl, hR7, hb7⟩; obtain ⟨Af, cf, e7⟩ := Kd.R_slice hR7; subst e7; have s7 := s5.below hb7; have hB7 := below_step hB5 hb7; clear s5) | ((with_reducible refine gate_builtin (b := .append) (xs := #[.tmp 82, .tmp 83]) rfl ?_); at_builtin; obtain ⟨SB, hSB, hbSB, hup⟩ := s7.upd 1 _ rfl; have hSB' : (Kd.int .u8).R 5 w7 w.heap.size SB (.slice Aj (B ++ J).length cj) (B ++ J) := hSB; refine Kd.R_append_rows_wide (Kd.int .u8) (w0 := w) w.heap.size rfl (.tmp 82) (.tmp 83) 22 5 (.int .u8 0) 1 rfl Try.underlying22 info5 rfl (by decide) (by omega) (.slice Aj (B ++ J).length cj) (B ++ J) (frameL x) Af (frameL x).length cf (fun k => SB k ∨ w7.heap.size ≤ k) (fun _ => False) (by first | rfl | (simp only [List.length_append]; rfl)) rfl (Kd.R_mono hSB' (fun k hk => .inl hk)) (Kd.R_reads' hR7).2.2 (fun _ _ h => h) (fun _ h => h.elim) (fun k hk => .inr hk) hB7 hB7.size (by have h5 := hBl.out; have h7 := HC.out.2; have h8 := HX.out; have h9 := HM.out; rw [List.length_append, frameL_length]; omega) ?_; intro v8 w8 hR8 hB8 hg8 hat8; obtain ⟨A8, c8, e8⟩ := Kd.R_slice hR8; subst e8; have s8 := hup w8 (tB w.heap.size (.slice A8 (B ++ J ++ frameL x).length c8) (B ++ J ++ frameL x)) (Kept.of_grown hg8 (Kept.refl _ _) (fun k hk => .inl (hSB'.1 k hk))) (show (Kd.int .u8).R 5 w8 w.heap.size (fun k => (SB k ∨ w7.heap.size ≤ k) ∧ k < w8.heap.size) _ _ from Kd.R_mono (Kd.R_bound hR8) (fun k hk => ⟨hk.1, hk.2.2.1⟩)); clear hR8 hup hSB hSB' s7) | ((with_reducible refine gate_builtin (b := .append) (xs := #[.tmp 85, .tmp 88]) rfl ?_); at_builtin; obtain ⟨SW, hSW, hbSW, hup⟩ := s8.upd 0 _ rfl; have hSW' : (∀ k, k < w.heap.size → SW k) ∧ HN w8 w.heap.size SW (.slice A6 V.length c6) V := hSW; refine Kd.N_append k49 (w0 := w) w.heap.size rfl (.tmp 85) (.tmp 88) 44 49 (.agg #[.slice none 0 0, .bool false, .int .i64 0]) 40 rfl Try.underlying44 info49 rfl (by decide) (by omega) _ V _ _ (fun k => SW k ∨ w8.heap.size ≤ k) (fun k => k < w.heap.size) rfl rfl (fk49_arg hCx HX.out HMC.out hB8) (fun k hk => ⟨.inl (hSW'.1 k hk), fun he => Nat.not_lt.2 (Kd.N_base hSW'.2 k he.symm) hk⟩) (fun k hk => .inr hk) (Kd.N_mono hSW'.2 (fun k hk => .inl hk)) hB8 hB8.size (by have h5 := HVl.out; have h6 := HC.out.2; omega) ?_; intro v9 w9 hN9 hB9 hg9 hat9; obtain ⟨A9, c9, e9⟩ := Kd.N_slice hN9; rw [List.length_append, List.length_singleton] at e9; subst e9; have s9 := hup w9 (tHP w.heap.size w.heap.size (.slice A9 (V.length + 1) c9) (V ++ [⟨x, true, 0⟩])) (Kept.of_grown hg9 (Kept.refl _ _) (fun k hk => .inl (hSW'.2.1 k hk))) ⟨fun k hk => ⟨.inl (hSW'.1 k hk), Nat.lt_of_lt_of_le hk hB9.size⟩, Kd.N_bound hN9⟩; clear hN9 hup hSW hSW' s8))
                  go_roundg (gO - 1)
                  case measure => have := HC.out.2; omega
                  case rel => exact ⟨i + 1, B ++ J ++ frameL x, V ++ [⟨x, true, 0⟩], A8, A9, c8, c9, rfl, (congrArg (fun t => Value.slice A8 t c8) (by first | rfl | (simp only [List.length_append]; omega))), (by rw [List.length_append, List.length_singleton]), ⟨by have := hi0.out; omega⟩, ⟨by have := HC.out.2; omega⟩, ⟨by have h5 := hBl.out; have h8 := HX.out; have h9 := HM.out; rw [List.length_append, List.length_append, frameL_length]; omega⟩, ⟨by have h5 := HVl.out; rw [List.length_append, List.length_singleton]; omega⟩, ⟨BI_append (BI_append hBB.out hJB.out) (frameL_BI hxB)⟩, ⟨fun o ho => by rcases List.mem_append.1 ho with h5 | h5; exact HVf.out o h5; rw [List.mem_singleton.1 h5]; dsimp only; have := HX.out; have := HM.out; omega⟩, ⟨by rw [HV.out]; exact hOrd.out.more J x hJ73.out (by have := HX.out; have := HM.out; omega)⟩, ⟨by rw [List.length_append, List.length_singleton]; exact s9⟩, ⟨hB9⟩⟩
        · have d3 : decide (i < (l1.length : Int)) = false := decide_eq_false hbt
          obtain ⟨J, hJe⟩ : ∃ J : List Int, J = [] := ⟨_, rfl⟩
          have hJ50 : J.length ≤ 50 := by rw [hJe]; decide
          have hJ73 := Aside0.mk (show ∀ y ∈ J, y ≠ 73 from by rw [hJe]; intro y h; cases h)
          have hJB := Aside0.mk (show BI J from by rw [hJe]; exact BI_nil)
          have hSj := Aside0.mk (show Sep wr wr.heap.size [tHP w.heap.size w.heap.size (.slice Aw Wn.length cw) Wn, tB w.heap.size (.slice Ab (B ++ J).length cb) (B ++ J)] from by rw [hJe, List.append_nil]; exact hS.out)
          have hBj := hB
          obtain ⟨Aj, hAj⟩ : ∃ Aj, Aj = Ab := ⟨_, rfl⟩
          obtain ⟨cj, hcj⟩ : ∃ cj, cj = cb := ⟨_, rfl⟩
          have hBJ : B.length = (B ++ J).length := by rw [hJe, List.append_nil]
          rw [← hAj, ← hcj] at hSj
          rw [← hAj, ← hcj, hBJ]
          clear hAj hcj hBJ
          have HJe := Aside0.mk hJe
          clear hJe
          go_wp2
          obtain ⟨w2, hw2⟩ : ∃ w2, w2 = wr := ⟨_, rfl⟩
          obtain ⟨V, hV_⟩ : ∃ V, V = Wn := ⟨_, rfl⟩
          have HV := Aside0.mk (show V = Wn ++ (if J = [] then [] else [⟨[], false, 4⟩]) from by rw [hV_, if_pos HJe.out, List.append_nil])
          have HVl := Aside0.mk (show (V.length : Int) ≤ 2 * i + 1 from by rw [hV_]; have := hWl.out; omega)
          have HVf := Aside0.mk (show ∀ o ∈ V, o.f0.length ≤ 1048576 from by rw [hV_]; exact hWf.out)
          obtain ⟨Av, hAv⟩ : ∃ Av, Av = Aw := ⟨_, rfl⟩
          obtain ⟨cv, hcv⟩ : ∃ cv, cv = cw := ⟨_, rfl⟩
          have hS2 := Aside0.mk (show Sep w2 w2.heap.size [tHP w.heap.size w.heap.size (.slice Av V.length cv) V, tB w.heap.size (.slice Aj (B ++ J).length cj) (B ++ J)] from by rw [hw2, hV_, hAv, hcv]; exact hSj.out)
          have hB2 := Aside0.mk (show Below w.heap.size w w2 from by rw [hw2]; exact hBj.out)
          have hxx2 : w2.cell? (adx.add i.toNat) = some (.slice A1x x0.length c1x) := (hB2.out.cell (World.block_lt_of_cell? w _ hxx)).trans hxx
          rw [← hw2, ← hAv, ← hcv, ← hV_]
          clear hw2 hV_ hAv hcv
          refine start_ (n := 12) (S := fun w' => w'.cell? (adx.add i.toNat) = some (.slice A1x x0.length c1x)) (ds := []) #[false, false, false, false, false, false, false, false, false, false, false, false] (by kernel_rfl) rfl rfl (hxx2) (fun hHeld => ?_)
          generalize HW : w2.drew = w5 at hHeld ⊢
          have s5 : Sep w5 w5.heap.size [tHP w.heap.size w.heap.size (.slice Av V.length cv) V, tB w.heap.size (.slice Aj (B ++ J).length cj) (B ++ J)] := by rw [← HW]; exact hS2.out.below (below_drew (Below.refl _ _))
          have hB5 : Below w.heap.size w w5 := by rw [← HW]; exact below_drew hB2.out
          refine pure_ (i := 0) (N := some 64) (v := ?_) (a' := ?_) #[true, false, false, false, false, false, false, false, false, false, false, false] rfl rfl (by kernel_rfl) (fun _ _ _ h => h) (Or.inl ⟨by rfl, ?_⟩) ?_ ?_
          rotate_left
          · intro w'
            go_simp
            with_reducible rfl
          rotate_left
          · simp only [Act.put, List.setIfInBounds_toArray, List.set_cons_zero, List.set_cons_succ, i64_w, i32_w]
            rfl
          refine pure_ (i := 1) (N := some 65) (v := ?_) (a' := ?_) #[true, true, false, false, false, false, false, false, false, false, false, false] rfl rfl (by kernel_rfl) (fun _ _ _ h => h) (Or.inl ⟨by rfl, ?_⟩) ?_ ?_
          rotate_left
          · intro w'
            go_simp
            with_reducible rfl
          rotate_left
          · simp only [Act.put, List.setIfInBounds_toArray, List.set_cons_zero, List.set_cons_succ, i64_w, i32_w]
            rfl
          refine pure_ (i := 2) (N := some 66) (v := ?_) (a' := ?_) #[true, true, true, false, false, false, false, false, false, false, false, false] rfl rfl (by kernel_rfl) (fun _ _ _ h => h) (Or.inl ⟨by rfl, ?_⟩) ?_ ?_
          rotate_left
          · intro w'
            go_simp
            with_reducible rfl
          rotate_left
          · simp only [Act.put, List.setIfInBounds_toArray, List.set_cons_zero, List.set_cons_succ, i64_w, i32_w]
            rfl
          refine pure_ (i := 4) (N := some 68) (v := ?_) (a' := ?_) #[true, true, true, false, true, false, false, false, false, false, false, false] rfl rfl (by kernel_rfl) (fun _ _ _ h => h) (Or.inl ⟨by rfl, ?_⟩) ?_ ?_
          rotate_left
          · intro w'
            go_simp
            with_reducible rfl
          rotate_left
          · simp only [Act.put, List.setIfInBounds_toArray, List.set_cons_zero, List.set_cons_succ, i64_w, i32_w]
            rfl
          refine pure_ (i := 5) (N := some 69) (v := ?_) (a' := ?_) #[true, true, true, false, true, true, false, false, false, false, false, false] rfl rfl (by kernel_rfl) (fun _ _ _ h => h) (Or.inl ⟨by rfl, ?_⟩) ?_ ?_
          rotate_left
          · intro w'
            go_simp
            with_reducible rfl
          rotate_left
          · simp only [Act.put, List.setIfInBounds_toArray, List.set_cons_zero, List.set_cons_succ, i64_w, i32_w]
            rfl
          refine pure_ (i := 6) (N := some 70) (v := ?_) (a' := ?_) #[true, true, true, false, true, true, true, false, false, false, false, false] rfl rfl (by kernel_rfl) (fun _ _ _ h => h) (Or.inl ⟨by rfl, ?_⟩) ?_ ?_
          rotate_left
          · intro w'
            go_simp
            with_reducible rfl
          rotate_left
          · simp only [Act.put, List.setIfInBounds_toArray, List.set_cons_zero, List.set_cons_succ, i64_w, i32_w]
            rfl
          refine take_ (i := 3) (N := some 67) (v := ?_) (a' := ?_) #[true, true, true, true, true, true, true, false, false, false, false, false] rfl rfl (by kernel_rfl) (fun _ _ _ h => h) (Or.inl ⟨by rfl, ?_⟩) hHeld ?_ ?_
          rotate_left
          · intro w' s0
            go_simp
            with_reducible rfl
          rotate_left
          · simp only [Act.put, List.setIfInBounds_toArray, List.set_cons_zero, List.set_cons_succ, i64_w, i32_w]
            rfl
          refine take_ (i := 7) (N := some 71) (v := ?_) (a' := ?_) #[true, true, true, true, true, true, true, true, false, false, false, false] rfl rfl (by kernel_rfl) (fun _ _ _ h => h) (Or.inl ⟨by rfl, ?_⟩) hHeld ?_ ?_
          rotate_left
          · intro w' s0
            go_simp
            with_reducible rfl
          rotate_left
          · simp only [Act.put, List.setIfInBounds_toArray, List.set_cons_zero, List.set_cons_succ, i64_w, i32_w]
            rfl
          refine pure_ (i := 8) (N := some 72) (v := ?_) (a' := ?_) #[true, true, true, true, true, true, true, true, true, false, false, false] rfl rfl (by kernel_rfl) (fun _ _ _ h => h) (Or.inl ⟨by rfl, ?_⟩) ?_ ?_
          rotate_left
          · intro w'
            go_simp
            with_reducible rfl
          rotate_left
          · simp only [Act.put, List.setIfInBounds_toArray, List.set_cons_zero, List.set_cons_succ, i64_w, i32_w]
            rfl
          refine pure_ (i := 9) (N := some 73) (v := ?_) (a' := ?_) #[true, true, true, true, true, true, true, true, true, true, false, false] rfl rfl (by kernel_rfl) (fun _ _ _ h => h) (Or.inl ⟨by rfl, ?_⟩) ?_ ?_
          rotate_left
          · intro w'
            go_simp
            with_reducible rfl
          rotate_left
          · simp only [Act.put, List.setIfInBounds_toArray, List.set_cons_zero, List.set_cons_succ, i64_w, i32_w]
            rfl
          refine pure_ (i := 10) (N := some 74) (v := ?_) (a' := ?_) #[true, true, true, true, true, true, true, true, true, true, true, false] rfl rfl (by kernel_rfl) (fun _ _ _ h => h) (Or.inl ⟨by rfl, ?_⟩) ?_ ?_
          rotate_left
          · intro w'
            go_simp
            with_reducible rfl
          rotate_left
          · simp only [Act.put, List.setIfInBounds_toArray, List.set_cons_zero, List.set_cons_succ, i64_w, i32_w]
            rfl
          refine pure_ (i := 11) (N := some 10) (v := ?_) (a' := ?_) #[true, true, true, true, true, true, true, true, true, true, true, true] rfl rfl (by kernel_rfl) (fun _ _ _ h => h) (Or.inl ⟨by rfl, ?_⟩) ?_ ?_
          rotate_left
          · intro w'
            go_simp
            with_reducible rfl
          rotate_left
          · simp only [Act.put, List.setIfInBounds_toArray, List.set_cons_zero, List.set_cons_succ, i64_w, i32_w]
            rfl
          refine done_ (by kernel_rfl) ?_
          go_wp2_with (first | (go_at_call 11; refine (Frame_okn x hxB A1x m c1x _ HX.out (Kd.C_belowB hCx hB5 rfl) HMC.out (by have := HM.out; omega)).mono ?_; rintro e w7 ⟨v7, rfl, hR7, hb7⟩; obtain ⟨Af, cf, e7⟩ := Kd.R_slice hR7; subst e7; have s7 := s5.below hb7; have hB7 := below_step hB5 hb7; clear s5) | ((with_reducible refine gate_builtin (b := .append) (xs := #[.tmp 82, .tmp 83]) rfl ?_); at_builtin; obtain ⟨SB, hSB, hbSB, hup⟩ := s7.upd 1 _ rfl; have hSB' : (Kd.int .u8).R 5 w7 w.heap.size SB (.slice Aj (B ++ J).length cj) (B ++ J) := hSB; refine Kd.R_append_rows_wide (Kd.int .u8) (w0 := w) w.heap.size rfl (.tmp 82) (.tmp 83) 22 5 (.int .u8 0) 1 rfl Try.underlying22 info5 rfl (by decide) (by omega) (.slice Aj (B ++ J).length cj) (B ++ J) (frameL x) Af (frameL x).length cf (fun k => SB k ∨ w7.heap.size ≤ k) (fun _ => False) (by first | rfl | (simp only [List.length_append]; rfl)) rfl (Kd.R_mono hSB' (fun k hk => .inl hk)) (Kd.R_reads' hR7).2.2 (fun _ _ h => h) (fun _ h => h.elim) (fun k hk => .inr hk) hB7 hB7.size (by have h5 := hBl.out; have h7 := HC.out.2; have h8 := HX.out; have h9 := HM.out; rw [List.length_append, frameL_length]; omega) ?_; intro v8 w8 hR8 hB8 hg8 hat8; obtain ⟨A8, c8, e8⟩ := Kd.R_slice hR8; subst e8; have s8 := hup w8 (tB w.heap.size (.slice A8 (B ++ J ++ frameL x).length c8) (B ++ J ++ frameL x)) (Kept.of_grown hg8 (Kept.refl _ _) (fun k hk => .inl (hSB'.1 k hk))) (show (Kd.int .u8).R 5 w8 w.heap.size (fun k => (SB k ∨ w7.heap.size ≤ k) ∧ k < w8.heap.size) _ _ from Kd.R_mono (Kd.R_bound hR8) (fun k hk => ⟨hk.1, hk.2.2.1⟩)); clear hR8 hup hSB hSB' s7) | ((with_reducible refine gate_builtin (b := .append) (xs := #[.tmp 85, .tmp 88]) rfl ?_); at_builtin; obtain ⟨SW, hSW, hbSW, hup⟩ := s8.upd 0 _ rfl; have hSW' : (∀ k, k < w.heap.size → SW k) ∧ HN w8 w.heap.size SW (.slice Av V.length cv) V := hSW; refine Kd.N_append k49 (w0 := w) w.heap.size rfl (.tmp 85) (.tmp 88) 44 49 (.agg #[.slice none 0 0, .bool false, .int .i64 0]) 40 rfl Try.underlying44 info49 rfl (by decide) (by omega) _ V _ _ (fun k => SW k ∨ w8.heap.size ≤ k) (fun k => k < w.heap.size) rfl rfl (fk49_arg hCx HX.out HMC.out hB8) (fun k hk => ⟨.inl (hSW'.1 k hk), fun he => Nat.not_lt.2 (Kd.N_base hSW'.2 k he.symm) hk⟩) (fun k hk => .inr hk) (Kd.N_mono hSW'.2 (fun k hk => .inl hk)) hB8 hB8.size (by have h5 := HVl.out; have h6 := HC.out.2; omega) ?_; intro v9 w9 hN9 hB9 hg9 hat9; obtain ⟨A9, c9, e9⟩ := Kd.N_slice hN9; rw [List.length_append, List.length_singleton] at e9; subst e9; have s9 := hup w9 (tHP w.heap.size w.heap.size (.slice A9 (V.length + 1) c9) (V ++ [⟨x, true, 0⟩])) (Kept.of_grown hg9 (Kept.refl _ _) (fun k hk => .inl (hSW'.2.1 k hk))) ⟨fun k hk => ⟨.inl (hSW'.1 k hk), Nat.lt_of_lt_of_le hk hB9.size⟩, Kd.N_bound hN9⟩; clear hN9 hup hSW hSW' s8))
          go_roundg (gO - 1)
          case measure => have := HC.out.2; omega
          case rel => exact ⟨i + 1, B ++ J ++ frameL x, V ++ [⟨x, true, 0⟩], A8, A9, c8, c9, rfl, (congrArg (fun t => Value.slice A8 t c8) (by first | rfl | (simp only [List.length_append]; omega))), (by rw [List.length_append, List.length_singleton]), ⟨by have := hi0.out; omega⟩, ⟨by have := HC.out.2; omega⟩, ⟨by have h5 := hBl.out; have h8 := HX.out; have h9 := HM.out; rw [List.length_append, List.length_append, frameL_length]; omega⟩, ⟨by have h5 := HVl.out; rw [List.length_append, List.length_singleton]; omega⟩, ⟨BI_append (BI_append hBB.out hJB.out) (frameL_BI hxB)⟩, ⟨fun o ho => by rcases List.mem_append.1 ho with h5 | h5; exact HVf.out o h5; rw [List.mem_singleton.1 h5]; dsimp only; have := HX.out; have := HM.out; omega⟩, ⟨by rw [HV.out]; exact hOrd.out.more J x hJ73.out (by have := HX.out; have := HM.out; omega)⟩, ⟨by rw [List.length_append, List.length_singleton]; exact s9⟩, ⟨hB9⟩⟩
      · have d12 : (decide (i < (l0.length : Int)) = true ∧ decide (i < 20) = false) ∨ decide (i < (l0.length : Int)) = false := by
          by_cases h1 : i < (l0.length : Int)
          · exact .inl ⟨decide_eq_true h1, decide_eq_false (fun h2 => hc ⟨h1, h2⟩)⟩
          · exact .inr (decide_eq_false h1)
        have hi21 : i ≤ 21 := by omega
        have hall : allI 1000 ([] ++ B) false = (Wn, [], false) := by
          have h1 := hOrd.out.all
          rw [List.nil_append, all_count 1000 B false (by rw [h1]; have := hWl.out; show Wn.length < 1000; omega), h1]
        have HA := Aside0.mk hall
        have HBL := Aside0.mk (show B.length ≤ 30000 from by have := hBl.out; omega)
        have HWL := Aside0.mk (show Wn.length ≤ 1000 from by have := hWl.out; omega)
        clear hall
        rcases d12 with ⟨d1, d2⟩ | d1
        all_goals
          go_wp2_with (first | (go_at_call 15; refine (New_rf _).mono ?_; rintro e w1 ⟨g, rfl, hr1, hb1⟩; have s1 := hS.out.new (base := w.heap.size) hB.out.size hr1 hb1; have hB1 := below_step hB.out hb1; clear hr1) | (go_at_call 17; refine (Sep.feed (w := w) s1 2 g [] false rfl hB1 B (by have := HBL.out; simp only [List.length_nil]; omega) Ab B.length cb rfl (s1.bytes 1 rfl).2.1 (s1.bytes 1 rfl).2.2).mono ?_; rintro e w2 ⟨rfl, s2, hB2, _⟩; clear s1) | (go_at_call 23; refine (Sep.all (w := w) s2 2 g _ false rfl hB2 (BI_append BI_nil hBB.out) (by rw [List.nil_append]; have := HBL.out; omega) _ HA.out).mono ?_; rintro e w3 ⟨v3, rfl, ⟨A3, c3, rfl⟩, s3, hB3, _⟩; clear s2) | (have g_ := s3; clear g_; go_at_call 24; refine (same_n Wn hWf.out (by have := HWL.out; omega) _ _ _ _ _ _ _ rfl (s3.heard 3 rfl).2.1 (s3.heard 3 rfl).2.2 rfl (s3.heardP 0 rfl).2.1 (s3.heardP 0 rfl).2.2).mono ?_; rintro e w4 ⟨rfl, hb4⟩; have s4 := s3.below hb4; have hB4 := below_step hB3 hb4; clear s3) | (go_at_call 22; refine (Sep.waits (w := w) s4 2 g _ _ rfl).mono ?_; rintro e w5 ⟨rfl, rfl⟩) | (go_at_call 14; refine (awake_calls _).mono ?_; rintro e w12 ⟨rfl, hb12⟩; have hB12 := below_step hB4 hb12))
          go_ret
          exact ⟨rfl, hB12⟩
  · rw [if_neg hok] at h
    cases h
end Go.Proofs.Ytkndghbognhocaa.X
