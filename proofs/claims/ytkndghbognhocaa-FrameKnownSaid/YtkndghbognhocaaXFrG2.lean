/- Joined by frjoin.py, a program of these sessions, out of: FrFeed, FrIndex, FrNext, FrNext2, FrRd, FrWalk. -/
import Derived.Test.YtkndghbognhocaaXFrG1
import Derived.Shelf.Bytes.SlIndexAt
import Derived.Test.YtkndghbognhocaaXx5
import Derived.Test.YtkndghbognhocaaXx4
import Derived.Test.YtkndghbognhocaaXx1
import Derived.Test.YtkndghbognhocaaXx6
import Derived.Test.YtkndghbognhocaaXx0
namespace Go.Proofs.Ytkndghbognhocaa.X
open Go.RowKit Go.Proofs.YtkndghbognhocaaW.PrintWords Go.Proofs.YtkndghbognhocaaW.PrintLast Go.Proofs.YtkndghbognhocaaW.PrintMore
attribute [local go_sem] max2_int min2_int max_two min_two max_three min_three max_four min_four
set_option linter.unusedVariables false
set_option linter.unusedSimpArgs false
abbrev BQ (w : World) (base : Nat) (ok : Nat → Prop) (v : Value) (l : List Int) : Prop := (Kd.int .u8).Q 5 w base ok v l
/-- A reader at block g: its cells mk v, v the bytes that wait. -/
def RD (T : Nat) (mk : Value → Array Value) (w : World) (base : Nat) (ok : Nat → Prop) (g : Nat) (l : List Int) : Prop :=
  ok g ∧ base ≤ g ∧ ∃ v, w.heap[g]? = some (.cells (mk v) T (0, 0)) ∧ BQ w base (fun k => ok k ∧ k ≠ g) v l
section
variable {T : Nat} {mk : Value → Array Value} {w w1 : World} {base base' g : Nat} {ok ok' : Nat → Prop} {l : List Int}
theorem RD.mono (h : RD T mk w base ok g l) (hk : ∀ k, ok k → ok' k) : RD T mk w base ok' g l := by
  obtain ⟨h1, h2, v, h3, h4⟩ := h
  exact ⟨hk g h1, h2, v, h3, Kd.Q_mono h4 (fun k h => ⟨hk k h.1, h.2⟩)⟩
theorem RD.lower (h : RD T mk w base ok g l) (hb : base' ≤ base) : RD T mk w base' ok g l := by
  obtain ⟨h1, h2, v, h3, h4⟩ := h
  exact ⟨h1, Nat.le_trans hb h2, v, h3, Kd.Q_lower h4 hb⟩
theorem RD.bound (h : RD T mk w base ok g l) : RD T mk w base (fun k => ok k ∧ k < w.heap.size) g l := by
  obtain ⟨h1, h2, v, h3, h4⟩ := h
  exact ⟨⟨h1, blk_lt h3⟩, h2, v, h3, Kd.Q_mono (Kd.Q_bound h4) (fun k h => ⟨⟨h.1.1, h.2.2.1⟩, h.1.2⟩)⟩
theorem RD.bound2 (h : RD T mk w base ok g l) : RD T mk w base (fun k => ok k ∧ base ≤ k ∧ k < w.heap.size) g l := by
  obtain ⟨h1, h2, v, h3, h4⟩ := h
  exact ⟨⟨h1, h2, blk_lt h3⟩, h2, v, h3, Kd.Q_mono (Kd.Q_bound h4) (fun k h => ⟨⟨h.1.1, h.2.1, h.2.2.1⟩, h.1.2⟩)⟩
theorem RD.step (h : RD T mk w base ok g l) (hm : ∀ k, ok k → k < w.heap.size → w1.heap[k]? = w.heap[k]?) : RD T mk w1 base ok g l := by
  obtain ⟨h1, h2, v, h3, h4⟩ := h
  exact ⟨h1, h2, v, (hm g h1 (blk_lt h3)).trans h3, Kd.Q_step h4 (fun k hk hlt => hm k hk.1 hlt)⟩
theorem RD.below (h : RD T mk w base ok g l) (hb : Below w.heap.size w w1) : RD T mk w1 base ok g l := h.step (fun k _ hk => hb.block k hk)
end
section
variable {P : Program} {ops : Array Oper} {rest : List Oper} {o : Oper} {a : Act} {Q' : Exit → Act → World → Prop}
/-- append of bytes that are read, onto bytes that may begin inside their block. -/
theorem BQ_appends {W : World} (base : Nat) {i0 : TypeInfo} (ty : TypeId) (ht : P.underlying 22 = some (.slice 5)) (hi : P.info? 5 = some i0) (hz : i0.zero = some (.int .u8 0)) (hsz : i0.size = 1) (hby : i0.bytes = 1)
    (v : Value) (xs ys : List Int) (A : Option Addr) (m c : Nat) (ok : Nat → Prop) (HO : BQ W base ok v xs) (HR : (Kd.int .u8).C W A m ys) (hfresh : ∀ k, W.heap.size ≤ k → ok k) (hbase : base ≤ W.heap.size)
    (hl : xs.length + m ≤ 140737488355328) :
    ∃ v1 w1, (Builtin.append_ #[22, 22] ty #[v, .slice A m c]).run P W = .ok v1 w1 ∧ BQ w1 base ok v1 (xs ++ ys) ∧ W.grownBy w1 v.ownBlock := by
  have hm : ys.length = m := HR.1
  rcases Nat.eq_zero_or_pos m with h0 | h0
  · subst h0
    obtain rfl : ys = [] := List.eq_nil_of_length_eq_zero hm
    refine ⟨v, W, ?_, by rw [List.append_nil]; exact HO, World.grownBy.refl W _⟩
    obtain ⟨h0, inner, hq, hr⟩ := HO
    rcases hq.2 with ⟨hn, A', rfl, _⟩ | ⟨g, off, cap, cur, rfl, _, _, hnc, _⟩
    · cases A <;> cases A' <;> simp [Builtin.append_, run_underlying ht, sizeOf, typeInfo, hi, Builtin.lenOf, Builtin.firstCells, storeCells, loadCells, loadCellsFrom]
    · cases A <;> simp [Builtin.append_, run_underlying ht, sizeOf, typeInfo, hi, Builtin.lenOf, Builtin.firstCells, hnc, storeCells, loadCells, loadCellsFrom]
  · obtain ⟨ad, rfl, _⟩ := HR.2.2 h0
    obtain ⟨h1, inner, hq, hr⟩ := HO
    obtain ⟨news, hnr, hnc⟩ := ReadsRow.inner_ HR
    have hone : ∀ u ∈ news, u.oneCell' = true := by
      intro u hu
      obtain ⟨q, hq, rfl⟩ := List.mem_iff_getElem.1 hu
      have hql : q < ys.length := by have := hnr.1; simp only [show (Kd.int .u8).sz = 1 from rfl, Nat.mul_one] at this; omega
      have hc := hnr.2 q _ (List.getElem?_eq_getElem hql)
      have hc' : (news.drop (q * 1)).take 1 = [.int .u8 ys[q]] := hc
      have h3 : news[q]? = some (.int .u8 ys[q]) := by
        have := congrArg (fun z : List Value => z[0]?) hc'
        simpa [List.getElem?_take, List.getElem?_drop] using this
      rw [List.getElem?_eq_getElem hq] at h3
      injection h3 with h3
      rw [h3]; rfl
    obtain ⟨v1, w1, hrun, h2, hg, hat⟩ := q_append (P := P) W base 22 ty 5 i0 (.int .u8 0) 1 1 ht hi hz hsz hby rfl (by decide) v xs.length inner hq ad m c news (by rw [hnr.1, hm]; rfl) hnc hone h0 (by simp only [maxLen]; omega) (by omega) hbase
    refine ⟨v1, w1, hrun, ⟨fun k hk => ?_, inner ++ news, by rw [List.length_append, hm]; exact h2, Kd.reps_append (hr.imp_ (fun _ _ h => h)) (hnr.imp_ (fun _ _ h => h))⟩, hg⟩
    rcases hat with hat | ⟨b, hb, hle⟩
    · exact h1 k (hat ▸ hk)
    · rw [hb] at hk
      injection hk with hk
      exact hfresh k (by omega)
theorem BQ_append_ev {W : World} (base : Nat) (hgd : o.guard = none) (s x : Operand) (ho : o.op = .call { callee := .builtin .append, args := #[s, x], argTypes := #[22, 22] }) (ht : P.underlying 22 = some (.slice 5))
    (hinfo : (P.info? 5).map (fun i => (i.zero, i.size, i.bytes)) = some (some (.int .u8 0), 1, 1)) (v : Value) (xs ys : List Int) (A : Option Addr) (m c : Nat) (ok : Nat → Prop) (hs : a.eval s = v) (hx : a.eval x = .slice A m c)
    (HO : BQ W base ok v xs) (HR : (Kd.int .u8).C W A m ys) (hfresh : ∀ k, W.heap.size ≤ k → ok k) (hbase : base ≤ W.heap.size) (hl : xs.length + m ≤ 140737488355328)
    (h : ∀ v1 w1, BQ w1 base ok v1 (xs ++ ys) → W.grownBy w1 v.ownBlock → wpList P ops Q' rest (a.put o.dst v1) w1) : wpList P ops Q' (o :: rest) a W := by
  obtain ⟨i0, hi, hzz⟩ := Option.map_eq_some_iff.1 hinfo
  simp only [Prod.mk.injEq] at hzz
  obtain ⟨v1, w1, hr1, h1, hg⟩ := BQ_appends (P := P) base o.type ht hi hzz.1 hzz.2.1 hzz.2.2 v xs ys A m c ok HO HR hfresh hbase hl
  refine wpList_plain hgd fun K hK => ?_
  unfold Oper.wp execOp
  simp only [ho, resolve, invoke, builtin, Sem.run_bind, Sem.run_pure, Result.andThen_ok, List.map_toArray, List.map_cons, List.map_nil, hs, hx, hr1]
  exact hK _ _ (h v1 w1 h1 hg)
end
/-- layer 28's own reader, and the document's -/
abbrev mkF (made told : Bool) (v : Value) : Array Value := #[.bool made, v, .bool told]
abbrev mkM (told : Bool) (v : Value) : Array Value := #[v, .bool told]
abbrev RF (made told : Bool) := RD 55 (mkF made told)
abbrev RM (told : Bool) := RD 42 (mkM told)
set_option maxHeartbeats 4000000 in
theorem frame_Reader_none.calls (g : Nat) (made told : Bool) (u : Value) (w : World) (hb : w.heap[g]? = some (.cells (mkF made told u) 55 (0, 0))) :
    Calls Try.prog 32 #[.pointer (some ⟨g, 0, none⟩)] w fun e w' => e = .returned (.bool (!made)) ∧ w' = w := by
  have c0 : w.cell? ⟨g, 0, none⟩ = some (.bool made) := blk_cell hb 0
  go_enter Try.func32, Try.ntmps32
  go_wp2
  go_ret
  exact ⟨by cases made <;> rfl, rfl⟩
set_option maxHeartbeats 4000000 in
theorem frame_Reader_none.calls_nil (w : World) :
    Calls Try.prog 32 #[.pointer none] w fun e w' => e = .returned (.bool true) ∧ w' = w := by
  go_enter Try.func32, Try.ntmps32
  go_wp2
  go_ret
  exact ⟨rfl, rfl⟩
end Go.Proofs.Ytkndghbognhocaa.X
namespace Go.Proofs.Ytkndghbognhocaa.X
open Go.RowKit Go.Proofs.YtkndghbognhocaaW.PrintWords Go.Proofs.YtkndghbognhocaaW.PrintLast Go.Proofs.YtkndghbognhocaaW.PrintMore
attribute [local go_sem] max2_int min2_int max_two min_two max_three min_three max_four min_four
set_option linter.unusedVariables false
set_option linter.unusedSimpArgs false
set_option maxHeartbeats 4000000 in
theorem New_rf (w : World) : Calls Try.prog 15 #[] w fun e w' => ∃ g : Nat, e = .returned (.pointer (some ⟨g, 0, none⟩)) ∧ RF true false w' w.heap.size (fun _ => True) g [] ∧ Below w.heap.size w w' := by
  go_enter Try.func15, Try.ntmps15
  go_wp2_with (first | ((with_reducible refine gate_dst (N := 2) rfl ?_); refine box_event ?hg (N := 2) ?hd (cs := #[.bool true, .slice none 0 0, .bool false]) (t := 55) ?hr ?_; (case hd => rfl); (case hg => rfl); (case hr => first | (go_simp; done) | (go_simp; rfl)); intro gb hg w1 hbox hb))
  go_ret
  subst hg
  exact ⟨_, rfl, ⟨trivial, Nat.le_refl _, _, hbox, Kd.Q_nil _ _ _ _ _⟩, hb⟩
set_option maxHeartbeats 4000000 in
theorem New_rm (w : World) : Calls Try.prog 16 #[] w fun e w' => ∃ g : Nat, e = .returned (.pointer (some ⟨g, 0, none⟩)) ∧ RM false w' w.heap.size (fun _ => True) g [] ∧ Below w.heap.size w w' := by
  go_enter Try.func16, Try.ntmps16
  go_wp2_with (first | ((with_reducible refine gate_dst (N := 2) rfl ?_); refine box_event ?hg (N := 2) ?hd (cs := #[.slice none 0 0, .bool false]) (t := 42) ?hr ?_; (case hd => rfl); (case hg => rfl); (case hr => first | (go_simp; done) | (go_simp; rfl)); intro gb hg w1 hbox hb))
  go_ret
  subst hg
  exact ⟨_, rfl, ⟨trivial, Nat.le_refl _, _, hbox, Kd.Q_nil _ _ _ _ _⟩, hb⟩
theorem Waits_rf (g : Nat) (told : Bool) (l : List Int) (base : Nat) (ok : Nat → Prop) (w : World) (hr : RF true told w base ok g l) :
    Calls Try.prog 22 #[.pointer (some ⟨g, 0, none⟩)] w fun e w' => e = .returned (.int .i64 (l.length : Int)) ∧ w' = w := by
  obtain ⟨hg, hbg, v, hcell, hq⟩ := hr
  obtain ⟨A, c, rfl, hcap, hC⟩ := Kd.Q_reads hq
  have hk1 : w.cell? ⟨g, 1, none⟩ = some (.slice A l.length c) := blk_cell hcell 1
  go_enter Try.func22, Try.ntmps22
  go_wp2_with (go_at_call 32; refine (frame_Reader_none.calls g true told _ w hcell).mono ?_; rintro e w ⟨rfl, rfl⟩)
  go_ret
  exact ⟨rfl, rfl⟩
theorem Feed_rf (P0 : Nat → Prop) (g : Nat) (told : Bool) (l lb : List Int) (A1 : Option Addr) (c1 : Nat) (w0 w : World) (hB0 : Below w0.heap.size w0 w) (hr : RF true told w w0.heap.size P0 g l) (hl : l.length ≤ 1048576)
    (hb : (Kd.int .u8).C w A1 lb.length lb) (hc : lb.length ≤ c1) (hlb : lb.length ≤ 140737488351232) :
    Calls Try.prog 17 #[.pointer (some ⟨g, 0, none⟩), .slice A1 lb.length c1] w fun e w' => e = .returned (.int .i64 (if l.length + lb.length ≤ 1048576 then 0 else 5)) ∧
      RF true told w' w0.heap.size (fun k => P0 k ∨ w.heap.size ≤ k) g (if l.length + lb.length ≤ 1048576 then l ++ lb else l) ∧ Below w0.heap.size w0 w' ∧ Kept w w' P0 := by
  have hr0 := hr
  obtain ⟨hg, hbg, v, hcell, hq⟩ := hr
  obtain ⟨A, c, rfl, hcap, hC⟩ := Kd.Q_reads hq
  have hk1 : w.cell? ⟨g, 1, none⟩ = some (.slice A l.length c) := blk_cell hcell 1
  have hw : IntKind.i64.wrap ((l.length : Int) + (lb.length : Int)) = (l.length : Int) + (lb.length : Int) := by simp only [i64_w]; unfold wrap64; omega
  by_cases hs : l.length + lb.length ≤ 1048576
  · rw [if_pos hs, if_pos hs]
    have hd : decide (1048576 < (l.length : Int) + (lb.length : Int)) = false := decide_eq_false (by omega)
    go_enter Try.func17, Try.ntmps17
    go_wp2_with (first | (go_at_call 32; refine (frame_Reader_none.calls g true told _ w hcell).mono ?_; rintro e w ⟨rfl, rfl⟩) | ((with_reducible refine gate_builtin (b := .append) (xs := #[.tmp 22, .tmp 23]) rfl ?_); at_builtin; refine BQ_append_ev w0.heap.size rfl (.tmp 22) (.tmp 23) rfl Try.underlying22 info5 (.slice A l.length c) l lb A1 lb.length c1 (fun k => (P0 k ∨ w.heap.size ≤ k) ∧ k ≠ g) rfl rfl (Kd.Q_mono hq (fun k hk => ⟨.inl hk.1, hk.2⟩)) hb (fun k hk => ⟨.inr hk, by have := blk_lt hcell; omega⟩) hB0.size (by omega) ?_; intro v1 w1 hq1 hg1; obtain ⟨A2, c2, e2, hc2⟩ := Kd.Q_slice hq1; subst e2; have hcell1 := blk_grown hcell hg1 (Kd.Q_away hq (fun k hk => hk.2)); have hk1' : w1.cell? ⟨g, 1, none⟩ = some (.slice A l.length c) := blk_cell hcell1 1; have f1' : w1.frozen? ⟨g, 1, none⟩ = false := blk_frozen hcell1 1))
    go_ret
    rw [List.length_append] at hq1
    have hcell2 : (w1.setCell ⟨g, 1, none⟩ (.slice A2 (l.length + lb.length) c2)).heap[g]? = some (.cells (mkF true told (.slice A2 (l.length + lb.length) c2)) 55 (0, 0)) := blk_put hcell1 1 _ rfl
    refine ⟨rfl, ⟨.inl hg, hbg, _, hcell2, Kd.Q_far hq1 (fun k hk => hk.2) _⟩, ?_, ?_⟩
    · exact (pw_below_grown hB0 _ hB0.size hg1 (fun k hk => Kd.Q_base hq k hk)).setCell hbg _
    · exact (Kept.of_grown hg1 (Kept.refl _ _) (fun k hk => .inl (hq.1 k hk).1)).setCell (.inl hg) _
  · rw [if_neg hs, if_neg hs]
    have hd : decide (1048576 < (l.length : Int) + (lb.length : Int)) = true := decide_eq_true (by omega)
    go_enter Try.func17, Try.ntmps17
    go_wp2_with (first | (go_at_call 32; refine (frame_Reader_none.calls g true told _ w hcell).mono ?_; rintro e w ⟨rfl, rfl⟩))
    go_ret
    exact ⟨rfl, hr0.mono (fun k hk => .inl hk), hB0, Kept.refl _ _⟩
end Go.Proofs.Ytkndghbognhocaa.X
namespace Go.Proofs.Ytkndghbognhocaa.X
open Go.RowKit Go.Proofs.YtkndghbognhocaaW.PrintWords Go.Proofs.YtkndghbognhocaaW.PrintLast Go.Proofs.YtkndghbognhocaaW.PrintMore
attribute [local go_sem] max2_int min2_int max_two min_two max_three min_three max_four min_four
set_option linter.unusedVariables false
set_option linter.unusedSimpArgs false
theorem run_indexByteNil {P : Program} (w : World) (c : Nat) (cv : Int) :
    (Extern.BytealgIndexByte.indexByte #[.slice none 0 c, .int .u8 cv]).run P w = .ok (.int .i64 (Lib.indexByte (Lib.bytesOf []) cv.toNat.toUInt8)) w := by
  change Sem.run P (do
    let b ← Extern.Bytes.bytesOf (.slice none 0 c)
    let c ← Extern.Bytes.asByte (.int .u8 cv)
    match (List.range b.size).find? fun i => b[i]! == c with
    | some i => pure (goInt i)
    | none => pure (goInt (-1))) w = _
  simp only [Extern.Bytes.bytesOf, Extern.Bytes.asByte, Sem.run_bind, Sem.run_pure, Result.andThen]
  rfl
theorem run_indexByteAny {P : Program} (w : World) (A : Option Addr) (n c : Nat) (xs : List Int) (hx : xs.length = n) (hA : n = 0 → True) (hc : (Kd.int .u8).C w A n xs) (cv : Int) :
    (Extern.BytealgIndexByte.indexByte #[.slice A n c, .int .u8 cv]).run P w = .ok (.int .i64 (Lib.indexByte (Lib.bytesOf xs) cv.toNat.toUInt8)) w := by
  rcases A with _ | a
  · have h0 : n = 0 := by
      rcases Nat.eq_zero_or_pos n with h | h
      · exact h
      · obtain ⟨ad, he, _⟩ := hc.2.2 h; cases he
    subst h0
    obtain rfl : xs = [] := List.eq_nil_of_length_eq_zero hx
    exact run_indexByteNil w c cv
  · refine Lib.run_indexByteAt w a n c xs hx (fun i hi => ?_) cv
    obtain ⟨ad, he, hcell⟩ := hc.2.2 (by omega)
    injection he with he
    subst he
    obtain ⟨cs, hl, hK, hcc⟩ := hcell i xs[i] (List.getElem?_eq_getElem (by omega))
    have hK' : cs = [.int .u8 xs[i]] := hK
    have h2 := hcc 0 (.int .u8 xs[i]) (by rw [hK']; rfl)
    rw [show (Kd.int .u8).sz = 1 from rfl, Nat.mul_one, Nat.add_zero] at h2
    rw [h2, List.getD_eq_getElem?_getD, List.getElem?_eq_getElem (by omega)]
    rfl
set_option maxHeartbeats 4000000 in
set_option maxRecDepth 100000 in
theorem IndexByte_calls (A : Option Addr) (n c : Nat) (xs : List Int) (w : World) (hx : xs.length = n) (hc : (Kd.int .u8).C w A n xs) :
    Calls Try.prog 43 #[.slice A n c, .int .u8 73] w fun e w' => e = .returned (.int .i64 (Lib.indexByte (Lib.bytesOf xs) 73)) ∧ w' = w := by
  go_enter Try.func43, Try.ntmps43
  go_wp2
  rw [run_callFunc_extern Try.func47 (by kernel_rfl) (by kernel_rfl) (by kernel_rfl) (e := Extern.BytealgIndexByte.indexByte) (by kernel_rfl), run_indexByteAny w A n c xs hx (fun _ => trivial) hc 73]
  simp only [Result.andThen]
  rw [Oper.upon_value]
  go_wp2
  go_ret
  exact ⟨rfl, rfl⟩
set_option maxHeartbeats 4000000 in
set_option maxRecDepth 100000 in
theorem Clone_calls (A : Option Addr) (c : Nat) (xs : List Int) (w : World) (hc : (Kd.int .u8).C w A xs.length xs) (hcc : xs.length ≤ c) (hn : xs.length ≤ 1048576) :
    Calls Try.prog 37 #[.slice A xs.length c] w fun e w' => ∃ v, e = .returned v ∧ (Kd.int .u8).R 5 w' w.heap.size (fun _ => True) v xs ∧ Below w.heap.size w w' := by
  have q22 : ∀ (w : World) (a : Option Addr) (n c n' c' : Nat), (binOp .eql 22 (.slice a n c) (.slice none n' c')).run Try.prog w = .ok (.bool a.isNone) w := fun w a n c n' c' => Lib.run_eql_slice_nil w _ _ a n c n' c' Try.underlying22
  rcases A with _ | a
  · have h0 : xs = [] := by
      rcases Nat.eq_zero_or_pos xs.length with h | h
      · exact List.eq_nil_of_length_eq_zero h
      · obtain ⟨ad, he, _⟩ := hc.2.2 h; cases he
    subst h0
    go_enter Try.func37, Try.ntmps37
    go_wp2
    go_ret
    exact ⟨_, rfl, Kd.R_nil _ _ _ _ _, Below.refl _ _⟩
  · go_enter Try.func37, Try.ntmps37
    go_wp2_with (first | ((with_reducible refine gate_dst (N := 5) rfl ?_); refine Kd.R_lit (Kd.int .u8) (w0 := w) (N := 5) w.heap.size 5 rfl rfl (xs := []) (inner := []) (ok := fun _ => True) (okp := fun _ => False) (by first | (go_simp; done) | (go_simp; rfl)) ⟨rfl, fun j p h => by cases h⟩ (fun _ h => h.elim) trivial (Below.refl _ _) (Nat.le_refl _) (by decide) ?_; intro v1 w1 ho hb hg hn; obtain ⟨A5, c5, e5⟩ := Kd.R_slice ho; subst e5) | ((with_reducible refine gate_builtin (b := .append) (xs := #[.tmp 5, .tmp 6]) rfl ?_); at_builtin; refine Kd.R_append_rows_wide (Kd.int .u8) (w0 := w) w.heap.size rfl (.tmp 5) (.tmp 6) 22 5 (.int .u8 0) 1 rfl Try.underlying22 info5 rfl (by decide) (by omega) _ ([] : List Int) xs _ _ _ (fun _ => True) (fun _ => False) rfl rfl ho (Kd.C_below hc hb) (fun _ _ h => h) (fun _ h => h.elim) (fun _ _ => trivial) hb hb.size (by simp only [List.length_nil]; omega) ?_; intro v2 w2 ho2 hb2 hg2 hat2; rw [List.nil_append] at ho2; obtain ⟨A6, c6, e6⟩ := Kd.R_slice ho2; subst e6))
    go_ret
    exact ⟨_, rfl, ho2, hb2⟩
end Go.Proofs.Ytkndghbognhocaa.X
namespace Go.Proofs.Ytkndghbognhocaa.X
open Go.RowKit Go.Proofs.YtkndghbognhocaaW.PrintWords Go.Proofs.YtkndghbognhocaaW.PrintLast Go.Proofs.YtkndghbognhocaaW.PrintMore Go.Proofs.Ytkndghbognhocaa.Pure
attribute [local go_sem] max2_int min2_int max_two min_two max_three min_three max_four min_four
set_option linter.unusedVariables false
set_option linter.unusedSimpArgs false
/-- a cut from the front -/
theorem BQ_from (A : Option Addr) (c : Nat) (l : List Int) (j : Nat) (hj : j ≤ l.length) : ∃ A' c', (∀ W, (Instr.slice 22 (.slice A l.length c) (some (.int .i64 (j : Int))) none none).run Try.prog W = .ok (.slice A' (l.length - j) c') W) ∧
    (∀ w base ok, BQ w base ok (.slice A l.length c) l → BQ w base ok (.slice A' (l.length - j) c') (l.drop j)) := by
  obtain ⟨i0, hi0, _, hsz, _⟩ := info_parts info5
  refine ⟨if c = j then A else A.map (·.add (j * 1)), c - j, fun W => ?_, fun w base ok h => ?_⟩
  · have := cut_from (P := Try.prog) 22 5 .i64 Try.underlying22 hi0 1 hsz A l.length c (j : Int) (by omega) (by omega) W
    rw [this]
    simp only [Int.toNat_natCast]
  · exact Kd.Q_drop (d := Kd.int .u8) h hj
set_option maxHeartbeats 8000000 in
set_option maxRecDepth 100000 in
theorem skip_calls (P0 : Nat → Prop) (g : Nat) (told : Bool) (l : List Int) (hBI : BI l) (hl : l.length ≤ 1048576) (w0 w : World) (hB0 : Below w0.heap.size w0 w) (hr : RF true told w w0.heap.size P0 g l) :
    Calls Try.prog 33 #[.pointer (some ⟨g, 0, none⟩)] w fun e w' => e = .returned (.bool (decide (((skipL l).length : Int) < (l.length : Int)))) ∧ RF true told w' w0.heap.size P0 g (skipL l) ∧ Below w0.heap.size w0 w' ∧ Kept w w' P0 := by
  have HR := Aside0.mk hr
  obtain ⟨hg, hbg, v, hcell, hq⟩ := hr
  obtain ⟨A, c, rfl, hcap, hC⟩ := Kd.Q_reads hq
  have hk1 : w.cell? ⟨g, 1, none⟩ = some (.slice A l.length c) := blk_cell hcell 1
  go_enter Try.func33, Try.ntmps33
  go_wp2
  clear hk1
  go_loopg [4] (l.length + 1) (fun kq v4 w' => ∃ m, Aside0 (skipL m = skipL l) ∧ Aside0 (m.length < kq) ∧ Aside0 (BI m) ∧ Aside0 (m.length ≤ l.length) ∧ Aside0 (RF true told w' w0.heap.size P0 g m) ∧ Aside0 (Below w0.heap.size w0 w') ∧ Aside0 (Kept w w' P0))
  case atStart => exact ⟨l, ⟨rfl⟩, ⟨Nat.lt_succ_self _⟩, ⟨hBI⟩, ⟨Nat.le_refl _⟩, HR, ⟨hB0⟩, ⟨Kept.refl _ _⟩⟩
  case round =>
    obtain ⟨m, hs, hk, hb, hml, hR, hB, hK⟩ := hrel
    obtain ⟨hg2, hbg2, v2, hcell2, hq2⟩ := hR.out
    obtain ⟨A2, c2, rfl, hcap2, hC2⟩ := Kd.Q_reads hq2
    have k2 := (blk_cell hcell2 1).trans (show _ = some (Value.slice A2 m.length c2) from rfl)
    have f2 := blk_frozen hcell2 1
    have hmb := hml.out
    by_cases h0 : m = []
    · subst h0
      have hs' : skipL l = [] := hs.out.symm
      go_wp2
      go_ret
      exact ⟨by rw [hs']; first | rfl | simp, by rw [hs']; exact hR.out, hB.out, hK.out⟩
    · have hpos : 0 < m.length := List.length_pos_iff.2 h0
      have d0 : decide (0 < (m.length : Int)) = true := decide_eq_true (by omega)
      obtain ⟨kb, hkb⟩ := (begins_ev m hb.out (by omega)).rounds
      by_cases hbeg : beginsI m = true
      · rw [hbeg] at hkb
        have hs' : skipL l = m := by
          rw [← hs.out]
          cases m with
          | nil => rfl
          | cons x t => rw [skipL, if_pos hbeg]
        go_wp2_with (first | (go_at_call 42; refine (frame_begins.calls kb A2 c2 m true _ hC2 hcap2 hkb).mono ?_; rintro e w3 ⟨rfl, hbel⟩; have hcell3 := blk_below hcell2 hbel; have k3 := (blk_cell hcell3 1).trans (show _ = some (Value.slice A2 m.length c2) from rfl)))
        go_ret
        exact ⟨by rw [hs']; first | done | rfl | simp, by rw [hs']; exact hR.out.below hbel, below_step hB.out hbel, hK.out.below hbel⟩
      · have hbeg' : beginsI m = false := by simpa using hbeg
        rw [hbeg'] at hkb
        have hs' : skipL (m.drop 1) = skipL m := by
          cases m with
          | nil => rfl
          | cons x t => rw [skipL, if_neg hbeg]; rfl
        obtain ⟨A3, c3, hcut3, hQ3⟩ := BQ_from A2 c2 m 1 (by omega)
        have hcut3' : ∀ W, (Instr.slice 22 (.slice A2 m.length c2) (some (.int .i64 1)) none none).run Try.prog W = .ok (.slice A3 (m.length - 1) c3) W := hcut3
        rcases index_spec (m.drop 1) (BI_drop hb.out 1) with ⟨hi, hn⟩ | ⟨n, hi, hn, hsn⟩
        · have hs2 : skipL l = [] := by rw [← hs.out, ← hs', hn]
          go_wp2_with (first | (go_at_call 42; refine (frame_begins.calls kb A2 c2 m false _ hC2 hcap2 hkb).mono ?_; rintro e w3 ⟨rfl, hbel⟩; have hcell3 := blk_below hcell2 hbel; have hq3 := Kd.Q_below hq2 hbel; have hC3 := (Kd.Q_reads' (hQ3 _ _ _ hq3)).2.2; have k3 := (blk_cell hcell3 1).trans (show _ = some (Value.slice A2 m.length c2) from rfl); have f3 := blk_frozen hcell3 1; have hB3 := below_step hB.out hbel; have hK3 := hK.out.below hbel; clear hbel))
          refine start_ (n := 8) (S := fun w' => w'.cell? ⟨g, 1, none⟩ = some (.slice A2 m.length c2)) (ds := []) #[false, false, false, false, false, false, false, false] (by kernel_rfl) rfl rfl (k3) (fun hHeld => ?_)
          generalize HW : w3.drew = w5 at hHeld ⊢
          have hcell5 : w5.heap[g]? = some (.cells (mkF true told (.slice A2 m.length c2)) 55 (0, 0)) := by rw [← HW]; exact hcell3
          have hq5 : BQ w5 w0.heap.size (fun k => P0 k ∧ k ≠ g) (.slice A2 m.length c2) m := by rw [← HW]; exact Kd.Q_drew hq3
          have hB5 : Below w0.heap.size w0 w5 := by rw [← HW]; exact below_drew1 hB3
          have hK5 : Kept w w5 P0 := by rw [← HW]; exact hK3.drew
          have k5 := (blk_cell hcell5 1).trans (show _ = some (Value.slice A2 m.length c2) from rfl)
          have f5 := blk_frozen hcell5 1
          have hC5 := (Kd.Q_reads' (hQ3 _ _ _ hq5)).2.2
          clear hcell3 hq3 hB3 hK3 k3 f3 hC3
          refine pure_ (i := 0) (N := some 24) (v := ?_) (a' := ?_) #[true, false, false, false, false, false, false, false] rfl rfl (by kernel_rfl) (fun _ _ _ h => h) (Or.inl ⟨by rfl, ?_⟩) ?_ ?_
          rotate_left
          · intro w'
            go_simp
            with_reducible rfl
          rotate_left
          · simp only [Act.put, List.setIfInBounds_toArray, List.set_cons_zero, List.set_cons_succ, i64_w, i32_w]
            rfl
          refine pure_ (i := 1) (N := some 25) (v := ?_) (a' := ?_) #[true, true, false, false, false, false, false, false] rfl rfl (by kernel_rfl) (fun _ _ _ h => h) (Or.inl ⟨by rfl, ?_⟩) ?_ ?_
          rotate_left
          · intro w'
            go_simp
            with_reducible rfl
          rotate_left
          · simp only [Act.put, List.setIfInBounds_toArray, List.set_cons_zero, List.set_cons_succ, i64_w, i32_w]
            rfl
          refine pure_ (i := 2) (N := some 26) (v := ?_) (a' := ?_) #[true, true, true, false, false, false, false, false] rfl rfl (by kernel_rfl) (fun _ _ _ h => h) (Or.inl ⟨by rfl, ?_⟩) ?_ ?_
          rotate_left
          · intro w'
            go_simp
            with_reducible rfl
          rotate_left
          · simp only [Act.put, List.setIfInBounds_toArray, List.set_cons_zero, List.set_cons_succ, i64_w, i32_w]
            rfl
          refine take_ (i := 3) (N := some 27) (v := ?_) (a' := ?_) #[true, true, true, true, false, false, false, false] rfl rfl (by kernel_rfl) (fun _ _ _ h => h) (Or.inl ⟨by rfl, ?_⟩) hHeld ?_ ?_
          rotate_left
          · intro w' s0
            go_simp
            with_reducible rfl
          rotate_left
          · simp only [Act.put, List.setIfInBounds_toArray, List.set_cons_zero, List.set_cons_succ, i64_w, i32_w]
            rfl
          refine pure_ (i := 4) (N := some 28) (v := ?_) (a' := ?_) #[true, true, true, true, true, false, false, false] rfl rfl (by kernel_rfl) (fun _ _ _ h => h) (Or.inl ⟨by rfl, ?_⟩) ?_ ?_
          rotate_left
          · intro w'
            go_simp
            with_reducible rfl
          rotate_left
          · simp only [Act.put, List.setIfInBounds_toArray, List.set_cons_zero, List.set_cons_succ, i64_w, i32_w]
            rfl
          refine take_ (i := 5) (N := some 29) (v := ?_) (a' := ?_) #[true, true, true, true, true, true, false, false] rfl rfl (by kernel_rfl) (fun _ _ _ h => h) (Or.inl ⟨by rfl, ?_⟩) hHeld ?_ ?_
          rotate_left
          · intro w' s0
            go_simp
            with_reducible rfl
          rotate_left
          · simp only [Act.put, List.setIfInBounds_toArray, List.set_cons_zero, List.set_cons_succ, i64_w, i32_w]
            rfl
          refine one_ (i := 6) (N := some 30) #[true, true, true, true, true, true, true, false] rfl rfl (by kernel_rfl) (by decide) (fun K hK => ?_)
          refine goes_ Try.func43 (by kernel_rfl) rfl #[.slice A3 (m.drop 1).length c3, .int .u8 73] (by rfl) rfl rfl (by (try simp only [List.map_toArray, List.map_cons, List.map_nil]); first | done | rfl | (simp only [List.length_drop]; rfl)) ?_
          with_reducible refine (IndexByte_calls A3 _ c3 (m.drop 1) _ rfl hC5).mono ?_
          rintro e w5 ⟨he, rfl⟩
          rw [hi] at he
          subst he
          refine ⟨_, rfl, ?_⟩
          refine hK.out _ _ (k5) (fun hHeld => ?_)
          clear hK K
          refine norm_ (a' := ?_) ?_ ?_
          rotate_left
          · show Act.put _ (some 30) _ = _
            simp only [Act.put, List.setIfInBounds_toArray, List.set_cons_zero, List.set_cons_succ, i64_w, i32_w]
            rfl
          refine pure_ (i := 7) (N := some 4) (v := ?_) (a' := ?_) #[true, true, true, true, true, true, true, true] rfl rfl (by kernel_rfl) (fun _ _ _ h => h) (Or.inl ⟨by rfl, ?_⟩) ?_ ?_
          rotate_left
          · intro w'
            go_simp
            with_reducible rfl
          rotate_left
          · simp only [Act.put, List.setIfInBounds_toArray, List.set_cons_zero, List.set_cons_succ, i64_w, i32_w]
            rfl
          refine done_ (by kernel_rfl) ?_
          go_wp2
          go_ret
          refine ⟨by rw [hs2]; first | rfl | simp, ?_, hB5.setCell hbg2 _, hK5.setCell (.inl hg2) _⟩
          rw [hs2]
          exact ⟨hg2, hbg2, _, blk_put hcell5 1 _ rfl, Kd.Q_nil _ _ _ _ _⟩
        · have hw4 : IntKind.i64.wrap (1 + (n : Int)) = 1 + (n : Int) := by simp only [i64_w]; unfold wrap64; rw [List.length_drop] at hn; omega
          have dn : decide ((n : Int) < 0) = false := decide_eq_false (by omega)
          obtain ⟨A4, c4, hcut4, hQ4⟩ := BQ_from A2 c2 m (1 + n) (by rw [List.length_drop] at hn; omega)
          have hcut4' : ∀ W, (Instr.slice 22 (.slice A2 m.length c2) (some (.int .i64 (1 + (n : Int)))) none none).run Try.prog W = .ok (.slice A4 (m.length - (1 + n)) c4) W := fun W => by
            rw [show (1 + (n : Int)) = ((1 + n : Nat) : Int) by omega]; exact hcut4 W
          have hs4 : skipL (m.drop (1 + n)) = skipL l := by rw [← hs.out, ← hs', hsn, List.drop_drop]
          go_wp2_with (first | (go_at_call 42; refine (frame_begins.calls kb A2 c2 m false _ hC2 hcap2 hkb).mono ?_; rintro e w3 ⟨rfl, hbel⟩; have hcell3 := blk_below hcell2 hbel; have hq3 := Kd.Q_below hq2 hbel; have hC3 := (Kd.Q_reads' (hQ3 _ _ _ hq3)).2.2; have k3 := (blk_cell hcell3 1).trans (show _ = some (Value.slice A2 m.length c2) from rfl); have f3 := blk_frozen hcell3 1; have hB3 := below_step hB.out hbel; have hK3 := hK.out.below hbel; clear hbel))
          refine start_ (n := 8) (S := fun w' => w'.cell? ⟨g, 1, none⟩ = some (.slice A2 m.length c2)) (ds := []) #[false, false, false, false, false, false, false, false] (by kernel_rfl) rfl rfl (k3) (fun hHeld => ?_)
          generalize HW : w3.drew = w5 at hHeld ⊢
          have hcell5 : w5.heap[g]? = some (.cells (mkF true told (.slice A2 m.length c2)) 55 (0, 0)) := by rw [← HW]; exact hcell3
          have hq5 : BQ w5 w0.heap.size (fun k => P0 k ∧ k ≠ g) (.slice A2 m.length c2) m := by rw [← HW]; exact Kd.Q_drew hq3
          have hB5 : Below w0.heap.size w0 w5 := by rw [← HW]; exact below_drew1 hB3
          have hK5 : Kept w w5 P0 := by rw [← HW]; exact hK3.drew
          have k5 := (blk_cell hcell5 1).trans (show _ = some (Value.slice A2 m.length c2) from rfl)
          have f5 := blk_frozen hcell5 1
          have hC5 := (Kd.Q_reads' (hQ3 _ _ _ hq5)).2.2
          clear hcell3 hq3 hB3 hK3 k3 f3 hC3
          refine pure_ (i := 0) (N := some 24) (v := ?_) (a' := ?_) #[true, false, false, false, false, false, false, false] rfl rfl (by kernel_rfl) (fun _ _ _ h => h) (Or.inl ⟨by rfl, ?_⟩) ?_ ?_
          rotate_left
          · intro w'
            go_simp
            with_reducible rfl
          rotate_left
          · simp only [Act.put, List.setIfInBounds_toArray, List.set_cons_zero, List.set_cons_succ, i64_w, i32_w]
            rfl
          refine pure_ (i := 1) (N := some 25) (v := ?_) (a' := ?_) #[true, true, false, false, false, false, false, false] rfl rfl (by kernel_rfl) (fun _ _ _ h => h) (Or.inl ⟨by rfl, ?_⟩) ?_ ?_
          rotate_left
          · intro w'
            go_simp
            with_reducible rfl
          rotate_left
          · simp only [Act.put, List.setIfInBounds_toArray, List.set_cons_zero, List.set_cons_succ, i64_w, i32_w]
            rfl
          refine pure_ (i := 2) (N := some 26) (v := ?_) (a' := ?_) #[true, true, true, false, false, false, false, false] rfl rfl (by kernel_rfl) (fun _ _ _ h => h) (Or.inl ⟨by rfl, ?_⟩) ?_ ?_
          rotate_left
          · intro w'
            go_simp
            with_reducible rfl
          rotate_left
          · simp only [Act.put, List.setIfInBounds_toArray, List.set_cons_zero, List.set_cons_succ, i64_w, i32_w]
            rfl
          refine take_ (i := 3) (N := some 27) (v := ?_) (a' := ?_) #[true, true, true, true, false, false, false, false] rfl rfl (by kernel_rfl) (fun _ _ _ h => h) (Or.inl ⟨by rfl, ?_⟩) hHeld ?_ ?_
          rotate_left
          · intro w' s0
            go_simp
            with_reducible rfl
          rotate_left
          · simp only [Act.put, List.setIfInBounds_toArray, List.set_cons_zero, List.set_cons_succ, i64_w, i32_w]
            rfl
          refine pure_ (i := 4) (N := some 28) (v := ?_) (a' := ?_) #[true, true, true, true, true, false, false, false] rfl rfl (by kernel_rfl) (fun _ _ _ h => h) (Or.inl ⟨by rfl, ?_⟩) ?_ ?_
          rotate_left
          · intro w'
            go_simp
            with_reducible rfl
          rotate_left
          · simp only [Act.put, List.setIfInBounds_toArray, List.set_cons_zero, List.set_cons_succ, i64_w, i32_w]
            rfl
          refine take_ (i := 5) (N := some 29) (v := ?_) (a' := ?_) #[true, true, true, true, true, true, false, false] rfl rfl (by kernel_rfl) (fun _ _ _ h => h) (Or.inl ⟨by rfl, ?_⟩) hHeld ?_ ?_
          rotate_left
          · intro w' s0
            go_simp
            with_reducible rfl
          rotate_left
          · simp only [Act.put, List.setIfInBounds_toArray, List.set_cons_zero, List.set_cons_succ, i64_w, i32_w]
            rfl
          refine one_ (i := 6) (N := some 30) #[true, true, true, true, true, true, true, false] rfl rfl (by kernel_rfl) (by decide) (fun K hK => ?_)
          refine goes_ Try.func43 (by kernel_rfl) rfl #[.slice A3 (m.drop 1).length c3, .int .u8 73] (by rfl) rfl rfl (by (try simp only [List.map_toArray, List.map_cons, List.map_nil]); first | done | rfl | (simp only [List.length_drop]; rfl)) ?_
          with_reducible refine (IndexByte_calls A3 _ c3 (m.drop 1) _ rfl hC5).mono ?_
          rintro e w5 ⟨he, rfl⟩
          rw [hi] at he
          subst he
          refine ⟨_, rfl, ?_⟩
          refine hK.out _ _ (k5) (fun hHeld => ?_)
          clear hK K
          refine norm_ (a' := ?_) ?_ ?_
          rotate_left
          · show Act.put _ (some 30) _ = _
            simp only [Act.put, List.setIfInBounds_toArray, List.set_cons_zero, List.set_cons_succ, i64_w, i32_w]
            rfl
          refine pure_ (i := 7) (N := some 4) (v := ?_) (a' := ?_) #[true, true, true, true, true, true, true, true] rfl rfl (by kernel_rfl) (fun _ _ _ h => h) (Or.inl ⟨by rfl, ?_⟩) ?_ ?_
          rotate_left
          · intro w'
            go_simp
            with_reducible rfl
          rotate_left
          · simp only [Act.put, List.setIfInBounds_toArray, List.set_cons_zero, List.set_cons_succ, i64_w, i32_w]
            rfl
          refine done_ (by kernel_rfl) ?_
          go_wp2
          go_roundg (gk - 1)
          case measure => have := hk.out; omega
          case rel => exact ⟨m.drop (1 + n), ⟨hs4⟩, ⟨by have := hk.out; rw [List.length_drop]; omega⟩, ⟨BI_drop hb.out _⟩, ⟨by rw [List.length_drop]; omega⟩, ⟨⟨hg2, hbg2, _, blk_put hcell5 1 _ rfl, Kd.Q_far (hQ4 _ _ _ hq5) (fun k hk => hk.2) _⟩⟩, ⟨hB5.setCell hbg2 _⟩, ⟨hK5.setCell (.inl hg2) _⟩⟩
end Go.Proofs.Ytkndghbognhocaa.X
namespace Go.Proofs.Ytkndghbognhocaa.X
open Go.RowKit Go.Proofs.YtkndghbognhocaaW.PrintWords Go.Proofs.YtkndghbognhocaaW.PrintLast Go.Proofs.YtkndghbognhocaaW.PrintMore Go.Proofs.Ytkndghbognhocaa.Pure
attribute [local go_sem] max2_int min2_int max_two min_two max_three min_three max_four min_four
set_option linter.unusedVariables false
set_option linter.unusedSimpArgs false
abbrev CB (w : World) (A : Option Addr) (n : Nat) (l : List Int) : Prop := (Kd.int .u8).C w A n l
theorem CB_to (A : Option Addr) (c : Nat) (l : List Int) (j : Nat) (hj : j ≤ l.length) (hc : l.length ≤ c) :
    (∀ W, (Instr.slice 22 (.slice A l.length c) none (some (.int .i64 (j : Int))) none).run Try.prog W = .ok (.slice A j c) W) ∧ (∀ w, CB w A l.length l → CB w A j (l.take j)) := by
  obtain ⟨i0, hi0, _, hsz, _⟩ := info_parts info5
  obtain ⟨h1, h2, h3⟩ := print_take_of (P := Try.prog) (Value.int .u8) 0 22 5 .i64 Try.underlying22 hi0 hsz A c l (j : Int) (by omega) (by omega) hc
  simp only [Int.toNat_natCast] at h1 h2 h3
  have hl : (l.take j).length = j := by rw [List.length_take]; omega
  rw [hl] at h2
  simp only [hl] at h1
  exact ⟨h1, fun w h => Kd.C_of_reads (h1 := fun _ => rfl) (h2 w (Kd.reads_of_C h))⟩
theorem CB_mid (A : Option Addr) (c : Nat) (l : List Int) (a b : Nat) (hab : a ≤ b) (hb : b ≤ l.length) (hc : l.length ≤ c) :
    ∃ A' c', (∀ W, (Instr.slice 22 (.slice A l.length c) (some (.int .i64 (a : Int))) (some (.int .i64 (b : Int))) none).run Try.prog W = .ok (.slice A' (b - a) c') W) ∧ (∀ w, CB w A l.length l → CB w A' (b - a) ((l.take b).drop a)) ∧ b - a ≤ c' := by
  obtain ⟨i0, hi0, _, hsz, _⟩ := info_parts info5
  obtain ⟨A', h1, h2, h3⟩ := print_mid_of (P := Try.prog) (Value.int .u8) 0 22 5 .i64 .i64 Try.underlying22 hi0 hsz A c l (a : Int) (b : Int) (by omega) (by omega) (by omega) hc
  simp only [Int.toNat_natCast] at h1 h2 h3
  have hl : ((l.take b).drop a).length = b - a := by rw [List.length_drop, List.length_take]; omega
  refine ⟨A', c - a, fun W => ?_, fun w h => ?_, by omega⟩
  · have := h1 W
    first
      | exact this
      | (rw [hl] at this; exact this)
  · rw [hl] at h2
    exact Kd.C_of_reads (h1 := fun _ => rfl) (h2 w (Kd.reads_of_C h))
theorem CB_from (A : Option Addr) (c : Nat) (l : List Int) (j : Nat) (hj : j ≤ l.length) (hc : l.length ≤ c) :
    ∃ A' c', (∀ W, (Instr.slice 22 (.slice A l.length c) (some (.int .i64 (j : Int))) none none).run Try.prog W = .ok (.slice A' (l.length - j) c') W) ∧ (∀ w, CB w A l.length l → CB w A' (l.length - j) (l.drop j)) ∧ l.length - j ≤ c' := by
  obtain ⟨i0, hi0, _, hsz, _⟩ := info_parts info5
  obtain ⟨A', h1, h2, h3⟩ := print_drop_of (P := Try.prog) (Value.int .u8) 0 22 5 .i64 Try.underlying22 hi0 hsz A c l (j : Int) (by omega) (by omega) hc
  simp only [Int.toNat_natCast, List.length_drop] at h1 h2 h3
  exact ⟨A', c - j, h1, fun w h => Kd.C_of_reads (h1 := fun _ => rfl) (h2 w (Kd.reads_of_C h)), h3⟩
/-- what Next answers, and what it leaves -/
abbrev NextPost (P0 : Nat → Prop) (g : Nat) (told : Bool) (l : List Int) (w0 w : World) (r : (List Int × Bool × Int) × List Int × Bool) (e : Ending) (w' : World) : Prop :=
  ∃ v, e = .returned (.tuple #[v, .bool r.1.2.1, .int .i64 r.1.2.2]) ∧ (Kd.int .u8).R 5 w' w.heap.size (fun _ => True) v r.1.1 ∧ RF true r.2.2 w' w0.heap.size P0 g r.2.1 ∧ Below w0.heap.size w0 w' ∧ Kept w w' P0
set_option maxHeartbeats 8000000 in
set_option maxRecDepth 100000 in
theorem Next_syn (P0 : Nat → Prop) (g : Nat) (told : Bool) (l : List Int) (hBI : BI l) (hl : l.length ≤ 1048576) (w0 w : World) (hB0 : Below w0.heap.size w0 w) (hr : RF true told w w0.heap.size P0 g l)
    (h1 : (skipL l).length < l.length ∧ told = false) :
    Calls Try.prog 20 #[.pointer (some ⟨g, 0, none⟩)] w (NextPost P0 g told l w0 w (([], false, 4), skipL l, true)) := by
  have HR := Aside0.mk hr
  obtain ⟨hg, hbg, v, hcell, hq⟩ := hr
  have hr := HR.out
  obtain ⟨hlt, rfl⟩ := h1
  have hd : decide (((skipL l).length : Int) < (l.length : Int)) = true := decide_eq_true (by omega)
  go_enter Try.func20, Try.ntmps20
  go_wp2_with (first | (go_at_call 32; refine (frame_Reader_none.calls g true false _ w hcell).mono ?_; rintro e w ⟨rfl, rfl⟩) | (go_at_call 33; refine (skip_calls P0 g false l hBI hl w0 _ hB0 hr).mono ?_; rintro e w1 ⟨he, hr1, hB1, hK1⟩; rw [hd] at he; subst he; have hr1' := Aside0.mk hr1; obtain ⟨hg1, hbg1, v1, hcell1, hq1⟩ := hr1; obtain ⟨A1, c1, rfl, hcap1, hC1⟩ := Kd.Q_reads hq1; have k1 := (blk_cell hcell1 1).trans (show _ = some (Value.slice A1 (skipL l).length c1) from rfl); have k2 := (blk_cell hcell1 2).trans (show _ = some (Value.bool false) from rfl); have f2 := blk_frozen hcell1 2))
  go_ret3
  exact ⟨_, rfl, Kd.R_nil _ _ _ _ _, ⟨hg1, hbg1, _, blk_put hcell1 2 _ rfl, Kd.Q_far hq1 (fun k hk => hk.2) _⟩, hB1.setCell hbg1 _, hK1.setCell (.inl hg1) _⟩
set_option maxHeartbeats 8000000 in
set_option maxRecDepth 100000 in
theorem Next_short (P0 : Nat → Prop) (g : Nat) (told : Bool) (l : List Int) (hBI : BI l) (hl : l.length ≤ 1048576) (w0 w : World) (hB0 : Below w0.heap.size w0 w) (hr : RF true told w w0.heap.size P0 g l) (sk : Bool)
    (hd : decide (((skipL l).length : Int) < (l.length : Int)) = sk) (h1 : ¬ (sk = true ∧ told = false)) (h9 : (skipL l).length < 9) :
    Calls Try.prog 20 #[.pointer (some ⟨g, 0, none⟩)] w (NextPost P0 g told l w0 w (([], false, 0), skipL l, told)) := by
  have HR := Aside0.mk hr
  obtain ⟨hg, hbg, v, hcell, hq⟩ := hr
  have hr := HR.out
  have d9 : decide (((skipL l).length : Int) < 9) = true := decide_eq_true (by omega)
  cases sk <;> cases told <;> first | exact absurd ⟨rfl, rfl⟩ h1 | skip
  all_goals
    go_enter Try.func20, Try.ntmps20
    go_wp2_with (first | (go_at_call 32; refine (frame_Reader_none.calls g true _ _ w hcell).mono ?_; rintro e w ⟨rfl, rfl⟩) | (go_at_call 33; refine (skip_calls P0 g _ l hBI hl w0 _ hB0 hr).mono ?_; rintro e w1 ⟨he, hr1, hB1, hK1⟩; rw [hd] at he; subst he; have hr1' := Aside0.mk hr1; obtain ⟨hg1, hbg1, v1, hcell1, hq1⟩ := hr1; obtain ⟨A1, c1, rfl, hcap1, hC1⟩ := Kd.Q_reads hq1; have k1 := (blk_cell hcell1 1).trans (show _ = some (Value.slice A1 (skipL l).length c1) from rfl); have k2 := (blk_cell hcell1 2).trans rfl; have f2 := blk_frozen hcell1 2))
    go_ret3
    exact ⟨_, rfl, Kd.R_nil _ _ _ _ _, hr1'.out, hB1, hK1⟩
end Go.Proofs.Ytkndghbognhocaa.X
namespace Go.Proofs.Ytkndghbognhocaa.X
open Go.RowKit Go.Proofs.YtkndghbognhocaaW.PrintWords Go.Proofs.YtkndghbognhocaaW.PrintLast Go.Proofs.YtkndghbognhocaaW.PrintMore Go.Proofs.Ytkndghbognhocaa.Pure
attribute [local go_sem] max2_int min2_int max_two min_two max_three min_three max_four min_four
set_option linter.unusedVariables false
set_option linter.unusedSimpArgs false
theorem size_n (m : List Int) (hBI : BI m) (h5 : 5 ≤ m.length) (A : Option Addr) (c : Nat) (w : World) (hC : CB w A 3 ((m.take 5).drop 2)) (hc : 3 ≤ c) :
    Calls Try.prog 34 #[.slice A 3 c] w fun e w' => e = .returned (.int .i64 (sizeN m : Int)) ∧ Below w.heap.size w w' := by
  have hn := (num3_bounds m hBI h5).1
  obtain ⟨x0, x1, x2, x3, x4, t, rfl⟩ := five m h5
  have hB3 : BI [x2, x3, x4] := fun x hx => hBI x (by simp only [List.mem_cons, List.not_mem_nil, or_false] at hx ⊢; rcases hx with h | h | h <;> simp [h])
  obtain ⟨k, hk⟩ := (size_ev x2 x3 x4 hB3).rounds
  refine (frame_size.calls k A c [x2, x3, x4] _ w hC hc hk).mono ?_
  rintro e w' ⟨rfl, hd⟩
  exact ⟨by rw [hn]; rfl, hd.below⟩
theorem sum_n (L : List Int) (hBI : BI L) (A : Option Addr) (n c : Nat) (w : World) (hn : L.length = n) (hm : n ≤ 9000000000000000000) (hC : CB w A n L) (hc : n ≤ c) :
    Calls Try.prog 36 #[.slice A n c] w fun e w' => ∃ v, e = .returned v ∧ (Kd.int .u8).R 5 w' w.heap.size (fun _ => True) v (crc4 L) ∧ Below w.heap.size w w' := by
  subst hn
  obtain ⟨k, hk⟩ := (sum_ev L hBI (by omega)).rounds
  exact frame_sum.calls k A c L _ w hC hc hk
theorem equal_n (L M : List Int) (hL : BI L) (hM : BI M) (A B : Option Addr) (n c j d : Nat) (w : World) (hn : L.length = n) (hC : CB w A n L) (hc : n ≤ c) (hj : M.length = j) (hD : CB w B j M) (hd : j ≤ d) :
    Calls Try.prog 35 #[.slice A n c, .slice B j d] w fun e w' => e = .returned (.bool (decide (L = M))) ∧ Below w.heap.size w w' := by
  subst hn
  subst hj
  refine (bytes_Equal.calls A c L B d M _ w hC hc hD hd (bytes_Equal_some L M hL hM)).mono ?_
  rintro e w' ⟨rfl, h⟩
  exact ⟨rfl, by first | exact h | exact h.below⟩
theorem clone_n (L : List Int) (A : Option Addr) (n c : Nat) (w : World) (hn : L.length = n) (hm : n ≤ 1048576) (hC : CB w A n L) (hc : n ≤ c) :
    Calls Try.prog 37 #[.slice A n c] w fun e w' => ∃ v, e = .returned v ∧ (Kd.int .u8).R 5 w' w.heap.size (fun _ => True) v L ∧ Below w.heap.size w w' := by
  subst hn
  exact Clone_calls A c L w hC hc hm
set_option maxHeartbeats 8000000 in
set_option maxRecDepth 100000 in
theorem Next_wait (P0 : Nat → Prop) (g : Nat) (told : Bool) (l : List Int) (hBI : BI l) (hl : l.length ≤ 1048576) (w0 w : World) (hB0 : Below w0.heap.size w0 w) (hr : RF true told w w0.heap.size P0 g l) (sk : Bool)
    (hd : decide (((skipL l).length : Int) < (l.length : Int)) = sk) (h1 : ¬ (sk = true ∧ told = false)) (h9 : ¬ (skipL l).length < 9) (hw : (skipL l).length < 13 + sizeN (skipL l)) :
    Calls Try.prog 20 #[.pointer (some ⟨g, 0, none⟩)] w (NextPost P0 g told l w0 w (([], false, 0), skipL l, told)) := by
  have HR := Aside0.mk hr
  obtain ⟨hg, hbg, v, hcell, hq⟩ := hr
  have hr := HR.out
  have hBm := skip_BI hBI
  have hml := skip_le l
  have hn := (num3_bounds (skipL l) hBm (by omega)).2
  have d9 : decide (((skipL l).length : Int) < 9) = false := decide_eq_false (by omega)
  have hw1 : IntKind.i64.wrap (9 + (sizeN (skipL l) : Int)) = 9 + (sizeN (skipL l) : Int) := by simp only [i64_w]; unfold wrap64; omega
  have hw2 : IntKind.i64.wrap (9 + (sizeN (skipL l) : Int) + 4) = 9 + (sizeN (skipL l) : Int) + 4 := by simp only [i64_w]; unfold wrap64; omega
  have dw : decide (((skipL l).length : Int) < 9 + (sizeN (skipL l) : Int) + 4) = true := decide_eq_true (by omega)
  cases sk <;> cases told <;> first | exact absurd ⟨rfl, rfl⟩ h1 | skip
  all_goals
    go_enter Try.func20, Try.ntmps20
    go_wp2_with (first | (go_at_call 32; refine (frame_Reader_none.calls g true _ _ w hcell).mono ?_; rintro e w ⟨rfl, rfl⟩) | (go_at_call 33; refine (skip_calls P0 g _ l hBI hl w0 _ hB0 hr).mono ?_; rintro e w1 ⟨he, hr1, hB1, hK1⟩; rw [hd] at he; subst he; have hr1' := Aside0.mk hr1; obtain ⟨hg1, hbg1, v1, hcell1, hq1⟩ := hr1; obtain ⟨A1, c1, rfl, hcap1, hC1⟩ := Kd.Q_reads hq1; have k1 := (blk_cell hcell1 1).trans (show _ = some (Value.slice A1 (skipL l).length c1) from rfl); have k2 := (blk_cell hcell1 2).trans rfl; have f2 := blk_frozen hcell1 2; obtain ⟨A25, c25, hcut25, hC25, hc25⟩ := CB_mid A1 c1 (skipL l) 2 5 (by omega) (by omega) hcap1; have hcut25' : ∀ W, (Instr.slice 22 (.slice A1 (skipL l).length c1) (some (.int .i64 2)) (some (.int .i64 5)) none).run Try.prog W = .ok (.slice A25 3 c25) W := hcut25) | (go_at_call 34; refine (size_n (skipL l) hBm (by omega) A25 c25 _ (hC25 _ hC1) hc25).mono ?_; rintro e w2 ⟨rfl, hb2⟩; have hcell2 := blk_below hcell1 hb2; have k3 := (blk_cell hcell2 1).trans (show _ = some (Value.slice A1 (skipL l).length c1) from rfl)))
    go_ret3
    exact ⟨_, rfl, Kd.R_nil _ _ _ _ _, hr1'.out.below hb2, below_step hB1 hb2, hK1.below hb2⟩
set_option maxHeartbeats 8000000 in
set_option maxRecDepth 100000 in
theorem Next_frame (P0 : Nat → Prop) (g : Nat) (told : Bool) (l : List Int) (hBI : BI l) (hl : l.length ≤ 1048576) (w0 w : World) (hB0 : Below w0.heap.size w0 w) (hr : RF true told w w0.heap.size P0 g l) (sk : Bool)
    (hd : decide (((skipL l).length : Int) < (l.length : Int)) = sk) (h1 : ¬ (sk = true ∧ told = false)) (n : Nat) (hsz : sizeN (skipL l) = n) (hw : 13 + n ≤ (skipL l).length)
    (b : Bool) (hb : decide (crc4 ((skipL l).take (9 + n)) = ((skipL l).take (13 + n)).drop (9 + n)) = b) (r : (List Int × Bool × Int) × List Int × Bool)
    (hrr : b = true ∧ r = ((((skipL l).take (9 + n)).drop 9, true, 0), (skipL l).drop (13 + n), false) ∨ b = false ∧ r = (([], false, 30), (skipL l).drop (13 + n), false)) :
    Calls Try.prog 20 #[.pointer (some ⟨g, 0, none⟩)] w (NextPost P0 g told l w0 w r) := by
  have HR := Aside0.mk hr
  obtain ⟨hg, hbg, v, hcell, hq⟩ := hr
  have hr := HR.out
  have hBm := skip_BI hBI
  have hml := skip_le l
  have hn := (num3_bounds (skipL l) hBm (by omega)).2
  rw [hsz] at hn
  have d9 : decide (((skipL l).length : Int) < 9) = false := decide_eq_false (by omega)
  have hw1 : IntKind.i64.wrap (9 + (n : Int)) = 9 + (n : Int) := by simp only [i64_w]; unfold wrap64; omega
  have hw2 : IntKind.i64.wrap (9 + (n : Int) + 4) = 9 + (n : Int) + 4 := by simp only [i64_w]; unfold wrap64; omega
  have dw : decide (((skipL l).length : Int) < 9 + (n : Int) + 4) = false := decide_eq_false (by omega)
  rcases hrr with ⟨rfl, rfl⟩ | ⟨rfl, rfl⟩ <;> cases sk <;> cases told <;> first | exact absurd ⟨rfl, rfl⟩ h1 | skip
  all_goals
    go_enter Try.func20, Try.ntmps20
    go_wp2_with (first | (go_at_call 32; refine (frame_Reader_none.calls g true _ _ w hcell).mono ?_; rintro e w ⟨rfl, rfl⟩) | (go_at_call 33; refine (skip_calls P0 g _ l hBI hl w0 _ hB0 hr).mono ?_; rintro e w1 ⟨he, hr1, hB1, hK1⟩; rw [hd] at he; subst he; have hr1' := Aside0.mk hr1; obtain ⟨hg1, hbg1, v1, hcell1, hq1⟩ := hr1; obtain ⟨A1, c1, rfl, hcap1, hC1⟩ := Kd.Q_reads hq1; have k1 := (blk_cell hcell1 1).trans (show _ = some (Value.slice A1 (skipL l).length c1) from rfl); have k2 := (blk_cell hcell1 2).trans rfl; have f2 := blk_frozen hcell1 2; obtain ⟨A25, c25, hcut25, hC25, hc25⟩ := CB_mid A1 c1 (skipL l) 2 5 (by omega) (by omega) hcap1; have hcut25' : ∀ W, (Instr.slice 22 (.slice A1 (skipL l).length c1) (some (.int .i64 2)) (some (.int .i64 5)) none).run Try.prog W = .ok (.slice A25 3 c25) W := hcut25) | (go_at_call 34; refine (size_n (skipL l) hBm (by omega) A25 c25 _ (hC25 _ hC1) hc25).mono ?_; rintro e w2 ⟨he, hb2⟩; rw [hsz] at he; subst he; have hcell2 := blk_below hcell1 hb2; have hq2 := Kd.Q_below hq1 hb2; have hB2 := below_step hB1 hb2; have hK2 := hK1.below hb2; have k3 := (blk_cell hcell2 1).trans (show _ = some (Value.slice A1 (skipL l).length c1) from rfl)))
    obtain ⟨hcutF, hCF⟩ := CB_to A1 c1 (skipL l) (9 + n) (by omega) hcap1
    obtain ⟨AS, cS, hcutS, hCS, hcS⟩ := CB_mid A1 c1 (skipL l) (9 + n) (13 + n) (by omega) (by omega) hcap1
    obtain ⟨AR, cR, hcutR, hQR⟩ := BQ_from A1 c1 (skipL l) (13 + n) (by omega)
    have hcutF' : ∀ W, (Instr.slice 22 (.slice A1 (skipL l).length c1) none (some (.int .i64 (9 + (n : Int)))) none).run Try.prog W = .ok (.slice A1 (9 + n) c1) W := fun W => by
      rw [show (9 + (n : Int)) = ((9 + n : Nat) : Int) by omega]; exact hcutF W
    have hcutS' : ∀ W, (Instr.slice 22 (.slice A1 (skipL l).length c1) (some (.int .i64 (9 + (n : Int)))) (some (.int .i64 (9 + (n : Int) + 4))) none).run Try.prog W = .ok (.slice AS 4 cS) W := fun W => by
      rw [show (9 + (n : Int)) = ((9 + n : Nat) : Int) by omega, show (((9 + n : Nat) : Int) + 4) = ((13 + n : Nat) : Int) by omega]
      have := hcutS W
      rwa [show 13 + n - (9 + n) = 4 by omega] at this
    have hcutR' : ∀ W, (Instr.slice 22 (.slice A1 (skipL l).length c1) (some (.int .i64 (9 + (n : Int) + 4))) none none).run Try.prog W = .ok (.slice AR ((skipL l).length - (13 + n)) cR) W := fun W => by
      rw [show (9 + (n : Int) + 4) = ((13 + n : Nat) : Int) by omega]; exact hcutR W
    rw [show 13 + n - (9 + n) = 4 by omega] at hCS hcS
    refine start_ (n := 16) (S := fun w' => w'.cell? ⟨g, 1, none⟩ = some (.slice A1 (skipL l).length c1)) (ds := []) #[false, false, false, false, false, false, false, false, false, false, false, false, false, false, false, false] (by kernel_rfl) rfl rfl (k3) (fun hHeld => ?_)
    generalize HW : w2.drew = w5 at hHeld ⊢
    have hheap : w2.heap = w5.heap := by rw [← HW]; rfl
    have hcell5 := hcell2
    rw [hheap] at hcell5
    have hq5 : BQ w5 w0.heap.size (fun k => P0 k ∧ k ≠ g) (.slice A1 (skipL l).length c1) (skipL l) := by rw [← HW]; exact Kd.Q_drew hq2
    have hB5 : Below w0.heap.size w0 w5 := by rw [← HW]; exact below_drew1 hB2
    have hK5 : Kept w w5 P0 := by rw [← HW]; exact hK2.drew
    have k5 := (blk_cell hcell5 1).trans (show _ = some (Value.slice A1 (skipL l).length c1) from rfl)
    have f5 := blk_frozen hcell5 1
    have f52 := blk_frozen hcell5 2
    have k52 := (blk_cell hcell5 2).trans rfl
    clear hcell2 hq2 hB2 hK2 k3
    refine pure_ (i := 0) (N := some 43) (v := ?_) (a' := ?_) #[true, false, false, false, false, false, false, false, false, false, false, false, false, false, false, false] rfl rfl (by kernel_rfl) (fun _ _ _ h => h) (Or.inl ⟨by rfl, ?_⟩) ?_ ?_
    rotate_left
    · intro w'
      go_simp
      with_reducible rfl
    rotate_left
    · simp only [Act.put, List.setIfInBounds_toArray, List.set_cons_zero, List.set_cons_succ, i64_w, i32_w]
      rfl
    refine pure_ (i := 1) (N := some 44) (v := ?_) (a' := ?_) #[true, true, false, false, false, false, false, false, false, false, false, false, false, false, false, false] rfl rfl (by kernel_rfl) (fun _ _ _ h => h) (Or.inl ⟨by rfl, ?_⟩) ?_ ?_
    rotate_left
    · intro w'
      go_simp
      with_reducible rfl
    rotate_left
    · simp only [Act.put, List.setIfInBounds_toArray, List.set_cons_zero, List.set_cons_succ, i64_w, i32_w]
      rfl
    refine pure_ (i := 2) (N := some 45) (v := ?_) (a' := ?_) #[true, true, true, false, false, false, false, false, false, false, false, false, false, false, false, false] rfl rfl (by kernel_rfl) (fun _ _ _ h => h) (Or.inl ⟨by rfl, ?_⟩) ?_ ?_
    rotate_left
    · intro w'
      go_simp
      with_reducible rfl
    rotate_left
    · simp only [Act.put, List.setIfInBounds_toArray, List.set_cons_zero, List.set_cons_succ, i64_w, i32_w]
      rfl
    refine pure_ (i := 4) (N := some 47) (v := ?_) (a' := ?_) #[true, true, true, false, true, false, false, false, false, false, false, false, false, false, false, false] rfl rfl (by kernel_rfl) (fun _ _ _ h => h) (Or.inl ⟨by rfl, ?_⟩) ?_ ?_
    rotate_left
    · intro w'
      go_simp
      with_reducible rfl
    rotate_left
    · simp only [Act.put, List.setIfInBounds_toArray, List.set_cons_zero, List.set_cons_succ, i64_w, i32_w]
      rfl
    refine pure_ (i := 6) (N := some 49) (v := ?_) (a' := ?_) #[true, true, true, false, true, false, true, false, false, false, false, false, false, false, false, false] rfl rfl (by kernel_rfl) (fun _ _ _ h => h) (Or.inl ⟨by rfl, ?_⟩) ?_ ?_
    rotate_left
    · intro w'
      go_simp
      with_reducible rfl
    rotate_left
    · simp only [Act.put, List.setIfInBounds_toArray, List.set_cons_zero, List.set_cons_succ, i64_w, i32_w]
      rfl
    refine pure_ (i := 7) (N := some 50) (v := ?_) (a' := ?_) #[true, true, true, false, true, false, true, true, false, false, false, false, false, false, false, false] rfl rfl (by kernel_rfl) (fun _ _ _ h => h) (Or.inl ⟨by rfl, ?_⟩) ?_ ?_
    rotate_left
    · intro w'
      go_simp
      with_reducible rfl
    rotate_left
    · simp only [Act.put, List.setIfInBounds_toArray, List.set_cons_zero, List.set_cons_succ, i64_w, i32_w]
      rfl
    refine pure_ (i := 8) (N := some 51) (v := ?_) (a' := ?_) #[true, true, true, false, true, false, true, true, true, false, false, false, false, false, false, false] rfl rfl (by kernel_rfl) (fun _ _ _ h => h) (Or.inl ⟨by rfl, ?_⟩) ?_ ?_
    rotate_left
    · intro w'
      go_simp
      with_reducible rfl
    rotate_left
    · simp only [Act.put, List.setIfInBounds_toArray, List.set_cons_zero, List.set_cons_succ, i64_w, i32_w]
      rfl
    refine pure_ (i := 10) (N := some 53) (v := ?_) (a' := ?_) #[true, true, true, false, true, false, true, true, true, false, true, false, false, false, false, false] rfl rfl (by kernel_rfl) (fun _ _ _ h => h) (Or.inl ⟨by rfl, ?_⟩) ?_ ?_
    rotate_left
    · intro w'
      go_simp
      with_reducible rfl
    rotate_left
    · simp only [Act.put, List.setIfInBounds_toArray, List.set_cons_zero, List.set_cons_succ, i64_w, i32_w]
      rfl
    refine pure_ (i := 11) (N := some 54) (v := ?_) (a' := ?_) #[true, true, true, false, true, false, true, true, true, false, true, true, false, false, false, false] rfl rfl (by kernel_rfl) (fun _ _ _ h => h) (Or.inl ⟨by rfl, ?_⟩) ?_ ?_
    rotate_left
    · intro w'
      go_simp
      with_reducible rfl
    rotate_left
    · simp only [Act.put, List.setIfInBounds_toArray, List.set_cons_zero, List.set_cons_succ, i64_w, i32_w]
      rfl
    refine pure_ (i := 12) (N := some 55) (v := ?_) (a' := ?_) #[true, true, true, false, true, false, true, true, true, false, true, true, true, false, false, false] rfl rfl (by kernel_rfl) (fun _ _ _ h => h) (Or.inl ⟨by rfl, ?_⟩) ?_ ?_
    rotate_left
    · intro w'
      go_simp
      with_reducible rfl
    rotate_left
    · simp only [Act.put, List.setIfInBounds_toArray, List.set_cons_zero, List.set_cons_succ, i64_w, i32_w]
      rfl
    refine take_ (i := 3) (N := some 46) (v := ?_) (a' := ?_) #[true, true, true, true, true, false, true, true, true, false, true, true, true, false, false, false] rfl rfl (by kernel_rfl) (fun _ _ _ h => h) (Or.inl ⟨by rfl, ?_⟩) hHeld ?_ ?_
    rotate_left
    · intro w' s0
      go_simp
      with_reducible rfl
    rotate_left
    · simp only [Act.put, List.setIfInBounds_toArray, List.set_cons_zero, List.set_cons_succ, i64_w, i32_w]
      rfl
    refine pure_ (i := 5) (N := some 48) (v := ?_) (a' := ?_) #[true, true, true, true, true, true, true, true, true, false, true, true, true, false, false, false] rfl rfl (by kernel_rfl) (fun _ _ _ h => h) (Or.inl ⟨by rfl, ?_⟩) ?_ ?_
    rotate_left
    · intro w'
      go_simp
      with_reducible rfl
    rotate_left
    · simp only [Act.put, List.setIfInBounds_toArray, List.set_cons_zero, List.set_cons_succ, i64_w, i32_w]
      rfl
    refine pure_ (i := 14) (N := some 6) (v := ?_) (a' := ?_) #[true, true, true, true, true, true, true, true, true, false, true, true, true, false, true, false] rfl rfl (by kernel_rfl) (fun _ _ _ h => h) (Or.inl ⟨by rfl, ?_⟩) ?_ ?_
    rotate_left
    · intro w'
      go_simp
      with_reducible rfl
    rotate_left
    · simp only [Act.put, List.setIfInBounds_toArray, List.set_cons_zero, List.set_cons_succ, i64_w, i32_w]
      rfl
    refine take_ (i := 9) (N := some 52) (v := ?_) (a' := ?_) #[true, true, true, true, true, true, true, true, true, true, true, true, true, false, true, false] rfl rfl (by kernel_rfl) (fun _ _ _ h => h) (Or.inl ⟨by rfl, ?_⟩) hHeld ?_ ?_
    rotate_left
    · intro w' s0
      go_simp
      with_reducible rfl
    rotate_left
    · simp only [Act.put, List.setIfInBounds_toArray, List.set_cons_zero, List.set_cons_succ, i64_w, i32_w]
      rfl
    refine pure_ (i := 13) (N := some 56) (v := ?_) (a' := ?_) #[true, true, true, true, true, true, true, true, true, true, true, true, true, true, true, false] rfl rfl (by kernel_rfl) (fun _ _ _ h => h) (Or.inl ⟨by rfl, ?_⟩) ?_ ?_
    rotate_left
    · intro w'
      go_simp
      with_reducible rfl
    rotate_left
    · simp only [Act.put, List.setIfInBounds_toArray, List.set_cons_zero, List.set_cons_succ, i64_w, i32_w]
      rfl
    refine pure_ (i := 15) (N := some 7) (v := ?_) (a' := ?_) #[true, true, true, true, true, true, true, true, true, true, true, true, true, true, true, true] rfl rfl (by kernel_rfl) (fun _ _ _ h => h) (Or.inl ⟨by rfl, ?_⟩) ?_ ?_
    rotate_left
    · intro w'
      go_simp
      with_reducible rfl
    rotate_left
    · simp only [Act.put, List.setIfInBounds_toArray, List.set_cons_zero, List.set_cons_succ, i64_w, i32_w]
      rfl
    refine done_ (by kernel_rfl) ?_
    go_wp2_with (first | (go_at_call 36; have hcell6 := blk_put (blk_put hcell5 1 (.slice AR ((skipL l).length - (13 + n)) cR) rfl) 2 (.bool false) rfl; have hq6 := Kd.Q_far (p := ⟨g, 2, none⟩) (Kd.Q_far (p := ⟨g, 1, none⟩) hq5 (fun k hk => hk.2) (.slice AR ((skipL l).length - (13 + n)) cR)) (fun k hk => hk.2) (.bool false); have hB6 := (hB5.setCell (p := ⟨g, 1, none⟩) hbg1 (.slice AR ((skipL l).length - (13 + n)) cR)).setCell (p := ⟨g, 2, none⟩) hbg1 (.bool false); have hK6 := (hK5.setCell (p := ⟨g, 1, none⟩) (.inl hg1) (.slice AR ((skipL l).length - (13 + n)) cR)).setCell (p := ⟨g, 2, none⟩) (.inl hg1) (.bool false); have hC6 := (Kd.Q_reads' hq6).2.2; refine (sum_n ((skipL l).take (9 + n)) (BI_take hBm _) A1 (9 + n) c1 _ (by rw [List.length_take]; omega) (by omega) (hCF _ hC6) (by omega)).mono ?_; rintro e w7 ⟨v7, rfl, hR7, hb7⟩; obtain ⟨A7, c7, rfl⟩ := Kd.R_slice hR7; have hcell7 := blk_below hcell6 hb7; have hq7 := Kd.Q_below hq6 hb7; have hB7 := below_step hB6 hb7; have hK7 := hK6.below hb7; have hC7 := (Kd.Q_reads' hq7).2.2; clear hcell6 hq6 hB6 hK6 hC6) | (go_at_call 35; refine (equal_n _ _ (crc4_BI _) (BI_drop (BI_take hBm _) _) A7 AS 4 c7 4 cS _ rfl (Kd.R_reads' hR7).2.2 (Kd.R_reads' hR7).2.1 (by rw [List.length_drop, List.length_take]; omega) (hCS _ hC7) hcS).mono ?_; rintro e w8 ⟨he, hb8⟩; rw [hb] at he; subst he; have hcell8 := blk_below hcell7 hb8; have hq8 := Kd.Q_below hq7 hb8; have hB8 := below_step hB7 hb8; have hK8 := hK7.below hb8; have hC8 := (Kd.Q_reads' hq8).2.2; obtain ⟨A9, c9, hcut9, hC9, hc9⟩ := CB_from A1 c1 ((skipL l).take (9 + n)) 9 (by rw [List.length_take]; omega) (by rw [List.length_take]; omega); have hl9 : ((skipL l).take (9 + n)).length = 9 + n := (by rw [List.length_take]; omega); rw [hl9] at hcut9 hC9 hc9; have hcut9' : ∀ W, (Instr.slice 22 (.slice A1 (9 + n) c1) (some (.int .i64 9)) none none).run Try.prog W = .ok (.slice A9 (9 + n - 9) c9) W := hcut9; rw [show 9 + n - 9 = n by omega] at hcut9' hC9 hc9) | (go_at_call 37; refine (clone_n (((skipL l).take (9 + n)).drop 9) A9 n c9 _ (by rw [List.length_drop, List.length_take]; omega) (by omega) (hC9 _ (hCF _ hC8)) hc9).mono ?_; rintro e w9 ⟨v9, rfl, hR9, hb9⟩; obtain ⟨A10, c10, e10⟩ := Kd.R_slice hR9; rw [show (((skipL l).take (9 + n)).drop 9).length = n from (by rw [List.length_drop, List.length_take]; omega)] at e10; subst e10))
    go_ret3
    first
      | exact ⟨_, rfl, Kd.R_lower hR9 hK8.1, (show RF true false _ _ P0 g _ from ⟨hg1, hbg1, _, hcell8, hQR _ _ _ hq8⟩).below hb9, below_step hB8 hb9, hK8.below hb9⟩
      | exact ⟨_, rfl, Kd.R_nil _ _ _ _ _, ⟨hg1, hbg1, _, hcell8, hQR _ _ _ hq8⟩, hB8, hK8⟩
/-- Next answers what nextI says. -/
theorem Next_calls (P0 : Nat → Prop) (g : Nat) (told : Bool) (l : List Int) (hBI : BI l) (hl : l.length ≤ 1048576) (w0 w : World) (hB0 : Below w0.heap.size w0 w) (hr : RF true told w w0.heap.size P0 g l) :
    Calls Try.prog 20 #[.pointer (some ⟨g, 0, none⟩)] w (NextPost P0 g told l w0 w (nextI l told)) := by
  have hsk := skip_le l
  unfold nextI
  simp only []
  by_cases h1 : (skipL l).length < l.length ∧ told = false
  · rw [if_pos h1]
    exact Next_syn P0 g told l hBI hl w0 w hB0 hr h1
  · rw [if_neg h1]
    have h1' : ¬ (decide (((skipL l).length : Int) < (l.length : Int)) = true ∧ told = false) := fun h => h1 ⟨by have := of_decide_eq_true h.1; omega, h.2⟩
    by_cases h9 : (skipL l).length < 9
    · rw [if_pos h9]
      exact Next_short P0 g told l hBI hl w0 w hB0 hr _ rfl h1' h9
    · rw [if_neg h9]
      by_cases hw : (skipL l).length < 13 + sizeN (skipL l)
      · rw [if_pos hw]
        exact Next_wait P0 g told l hBI hl w0 w hB0 hr _ rfl h1' h9 hw
      · rw [if_neg hw]
        by_cases hc : crc4 ((skipL l).take (9 + sizeN (skipL l))) = ((skipL l).take (13 + sizeN (skipL l))).drop (9 + sizeN (skipL l))
        · rw [if_pos hc]
          exact Next_frame P0 g told l hBI hl w0 w hB0 hr _ rfl h1' _ rfl (by omega) true (decide_eq_true hc) _ (.inl ⟨rfl, rfl⟩)
        · rw [if_neg hc]
          exact Next_frame P0 g told l hBI hl w0 w hB0 hr _ rfl h1' _ rfl (by omega) false (decide_eq_false hc) _ (.inr ⟨rfl, rfl⟩)
end Go.Proofs.Ytkndghbognhocaa.X
