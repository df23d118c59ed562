import Derived.Test.YtkeekganabafbaaXJTu4
import Derived.Test.YtkeekganabafbaaXJTu1
import Derived.Test.YtkeekganabafbaaXJTu2
/- Texts of this claim, joined. -/
section
namespace Go.Proofs.Ytkeekganabafbaa.X
open Go.RowKit Go.Proofs.YtkeekganabafbaaW.PrintWords Go.Proofs.YtkeekganabafbaaW.PrintLast Go.Proofs.YtkeekganabafbaaW.PrintMore Go.Proofs.Ytkeekganabafbaa.Pure
attribute [local go_sem] max2_int min2_int max_two min_two max_three min_three max_four min_four
set_option linter.unusedVariables false
set_option linter.unusedSimpArgs false
theorem tmod2 (n : Int) (h : 0 ≤ n) : n.tmod 2 = n % 2 := Int.tmod_eq_emod_of_nonneg h
theorem tdiv2 (n : Int) (h : 0 ≤ n) : n.tdiv 2 = n / 2 := Int.tdiv_eq_ediv_of_nonneg h
set_option maxHeartbeats 8000000 in
set_option maxRecDepth 100000 in
theorem act_calls (n : Int) (w : World) (h0 : 0 ≤ n) (h1 : n ≤ 9007199254740991) :
    Calls Try.prog 85 #[.int .i64 n] w fun e' w' => e' = .returned (.agg #[.int .i64 (actI n).f0, .int .i64 (actI n).f1]) ∧ Below w.heap.size w w' := by
  by_cases c0 : n = 0
  · subst c0
    go_enter Try.func85, Try.ntmps85
    go_upto_region 1 with (first | ((with_reducible refine gate_dst (N := 2) rfl ?_); refine box_event ?hg (N := 2) ?hd (cs := #[.int .i64 0, .int .i64 0]) (t := 38) ?hr ?_; (case hd => rfl); (case hg => rfl); (case hr => first | (go_simp; done) | (go_simp; rfl)); intro g hg w1 hbx hba; have hgz : w.heap.size ≤ g := Nat.le_of_eq hg.symm; clear hg; have x0 := (blk_cell hbx 0).trans (show _ = some (Value.int .i64 0) from rfl); have x1 := (blk_cell hbx 1).trans (show _ = some (Value.int .i64 0) from rfl); have f0 := blk_frozen hbx 0; have f1 := blk_frozen hbx 1))
    go_wp2_with (fail)
    refine bodyPost_ret (results_cell_row rfl _ _ g 38 _ (0, 0) _ rfl (blk_put (blk_put hbx 0 _ rfl) 1 _ rfl) Try.underlying38 rfl (by kernel_rfl)) rfl ?_
    exact ⟨rfl, (hba.setCell hgz _).setCell hgz _⟩
  by_cases c1 : n = 1
  · subst c1
    go_enter Try.func85, Try.ntmps85
    go_upto_region 1 with (first | ((with_reducible refine gate_dst (N := 2) rfl ?_); refine box_event ?hg (N := 2) ?hd (cs := #[.int .i64 0, .int .i64 0]) (t := 38) ?hr ?_; (case hd => rfl); (case hg => rfl); (case hr => first | (go_simp; done) | (go_simp; rfl)); intro g hg w1 hbx hba; have hgz : w.heap.size ≤ g := Nat.le_of_eq hg.symm; clear hg; have x0 := (blk_cell hbx 0).trans (show _ = some (Value.int .i64 0) from rfl); have x1 := (blk_cell hbx 1).trans (show _ = some (Value.int .i64 0) from rfl); have f0 := blk_frozen hbx 0; have f1 := blk_frozen hbx 1))
    go_wp2_with (fail)
    refine bodyPost_ret (results_cell_row rfl _ _ g 38 _ (0, 0) _ rfl (blk_put (blk_put hbx 0 _ rfl) 1 _ rfl) Try.underlying38 rfl (by kernel_rfl)) rfl ?_
    exact ⟨rfl, (hba.setCell hgz _).setCell hgz _⟩
  have l0 : decide (n = 0) = false := decide_eq_false c0
  have l1 : decide (n = 1) = false := decide_eq_false c1
  have w1_ : IntKind.i64.wrap (n - 2) = n - 2 := by simp only [i64_w]; unfold wrap64; omega
  have w2_ : IntKind.i64.wrap (1 + n % 2) = 1 + n % 2 := by simp only [i64_w]; unfold wrap64; omega
  have w3_ : IntKind.i64.wrap (n % 2) = n % 2 := by simp only [i64_w]; unfold wrap64; omega
  have w4_ : IntKind.i64.wrap ((n - 2) / 2) = (n - 2) / 2 := by simp only [i64_w]; unfold wrap64; omega
  have m2 := tmod2 n h0
  have d2 := tdiv2 (n - 2) (by omega)
  have HA := Aside0.mk (show actI n = ⟨1 + n % 2, (n - 2) / 2⟩ from by unfold actI; rw [if_neg c0, if_neg c1])
  have H0 := Aside0.mk h0
  have H1 := Aside0.mk h1
  have C0 := Aside0.mk c0
  have C1 := Aside0.mk c1
  clear h0 h1
  go_enter Try.func85, Try.ntmps85
  go_upto_region 1 with (first | ((with_reducible refine gate_dst (N := 2) rfl ?_); refine box_event ?hg (N := 2) ?hd (cs := #[.int .i64 0, .int .i64 0]) (t := 38) ?hr ?_; (case hd => rfl); (case hg => rfl); (case hr => first | (go_simp; done) | (go_simp; rfl)); intro g hg w1 hbx hba; have hgz : w.heap.size ≤ g := Nat.le_of_eq hg.symm; clear hg; have x0 := (blk_cell hbx 0).trans (show _ = some (Value.int .i64 0) from rfl); have x1 := (blk_cell hbx 1).trans (show _ = some (Value.int .i64 0) from rfl); have f0 := blk_frozen hbx 0; have f1 := blk_frozen hbx 1))
  go_wp2_with (fail)
  refine bodyPost_ret (results_cell_row rfl _ _ g 38 _ (0, 0) _ rfl (blk_put (blk_put hbx 0 _ rfl) 1 _ rfl) Try.underlying38 rfl (by kernel_rfl)) rfl ?_
  rw [HA.out]
  exact ⟨rfl, (hba.setCell hgz _).setCell hgz _⟩
set_option maxHeartbeats 8000000 in
theorem ract_n (g : Nat) (s : RS) (w : World) (hr : RBS w g s) (hB : BI s.1) (hl : s.1.length < 225179981368000) :
    Calls Try.prog 64 #[.pointer (some ⟨g, 0, none⟩)] w fun e' w' => e' = .returned (.agg #[.int .i64 (actR s).1.f0, .int .i64 (actR s).1.f1]) ∧ RBoS w' w.heap.size g (actR s).2 ∧ KB w w' g := by
  have hne : g ≠ w.heap.size := by have := hr.lt; omega
  have HN := Aside0.mk (numR_range s)
  go_enter Try.func64, Try.ntmps64
  go_upto_region 1 with (first | ((with_reducible refine gate_dst (N := 2) rfl ?_); refine box_event ?hg (N := 2) ?hd (cs := #[.int .i64 0, .int .i64 0]) (t := 38) ?hr ?_; (case hd => rfl); (case hg => rfl); (case hr => first | (go_simp; done) | (go_simp; rfl)); intro ga hg w1 hbx hba; have hgz : w.heap.size ≤ ga := Nat.le_of_eq hg.symm; clear hg))
  have hgn : ga ≠ g := by have := hr.lt; omega
  go_wp2_with (first | (go_at_call 59; refine (num_n g s _ (RB.below hr hba) hB hl).mono ?_; rintro e' w2 ⟨rfl, hr2, hk2⟩; have hbx2 := hk2.1.blk hbx hgn (by simp)) | (go_at_call 85; refine (act_calls _ _ HN.out.1 HN.out.2.1).mono ?_; rintro e' w3 ⟨rfl, hb3⟩; have hr3 := hr2.below hb3; have hbx3 := blk_below hbx2 hb3; have x0 := (blk_cell hbx3 0).trans (show _ = some (Value.int .i64 0) from rfl); have x1 := (blk_cell hbx3 1).trans (show _ = some (Value.int .i64 0) from rfl); have f0 := blk_frozen hbx3 0; have f1 := blk_frozen hbx3 1))
  have hgs : ga < w1.heap.size := blk_lt hbx
  refine bodyPost_ret (results_cell_row rfl _ _ ga 38 _ (0, 0) _ rfl (blk_put (blk_put hbx3 0 _ rfl) 1 _ rfl) Try.underlying38 rfl (by kernel_rfl)) rfl ?_
  exact ⟨rfl, ((hr3.far hgn hgs _ _).far hgn hgs _ _).low hba.size, ((((KB.of_below hba g).trans hk2).trans (KB.of_below hb3 g)).far hgz _).far hgz _⟩
end Go.Proofs.Ytkeekganabafbaa.X
end
section
namespace Go.Proofs.Ytkeekganabafbaa.X
open Go.RowKit Go.Proofs.YtkeekganabafbaaW.PrintWords Go.Proofs.YtkeekganabafbaaW.PrintLast Go.Proofs.YtkeekganabafbaaW.PrintMore Go.Proofs.Ytkeekganabafbaa.Pure
attribute [local go_sem] max2_int min2_int max_two min_two max_three min_three max_four min_four
set_option linter.unusedVariables false
set_option linter.unusedSimpArgs false
theorem infoM38 : (Try.prog.info? 38).map (fun i => (i.zero, i.size, i.bytes)) = some (some (.agg #[.int .i64 0, .int .i64 0]), 2, 16) := by kernel_rfl
theorem infoM39 : (Try.prog.info? 39).map (fun i => (i.zero, i.size, i.bytes)) = some (some (.slice none 0 0), 1, 24) := by kernel_rfl
def RF (w : World) (g : Nat) (ok : Nat → Prop) (s : RS) : Prop := ∃ A c, w.heap[g]? = some (.cells #[.slice A s.1.length c, .bool s.2] 98 (0, 0)) ∧ s.1.length ≤ c ∧ Kd.F (Kd.int .u8) w ok A s.1.length s.1
theorem RF.rb {w : World} {g : Nat} {ok : Nat → Prop} {s : RS} (h : RF w g ok s) : RBS w g s := by
  obtain ⟨A, c, h1, h2, h3⟩ := h
  exact ⟨A, c, h1, h2, Kd.F_now h3⟩
theorem RF.of {w : World} {g : Nat} {s : RS} (h : RBS w g s) : RF w g (fun k => k < w.heap.size) s := by
  obtain ⟨A, c, h1, h2, h3⟩ := h
  exact ⟨A, c, h1, h2, Kd.C_F (Kd.heap_int .u8) h3⟩
theorem RF.own {w : World} {b g : Nat} {s : RS} (h : RBoS w b g s) : RF w g (fun k => b ≤ k) s := by
  obtain ⟨A, c, h1, h2⟩ := h
  exact ⟨A, c, h1, (Kd.R_reads' h2).2.1, Kd.F_mono (Kd.R_F (Kd.R_bound h2)) (fun k hk => hk.2.1)⟩
theorem RF.mono {w : World} {g : Nat} {ok ok' : Nat → Prop} {s : RS} (h : RF w g ok s) (hok : ∀ k, ok k → ok' k) : RF w g ok' s := by
  obtain ⟨A, c, h1, h2, h3⟩ := h
  exact ⟨A, c, h1, h2, Kd.F_mono h3 hok⟩
theorem RF.below {w w' : World} {g : Nat} {ok : Nat → Prop} {s : RS} (h : RF w g ok s) (hb : Below w.heap.size w w') : RF w' g (fun k => ok k ∧ k < w.heap.size) s := by
  obtain ⟨A, c, h1, h2, h3⟩ := h
  exact ⟨A, c, blk_below h1 hb, h2, Kd.F_old h3 hb⟩
theorem RF.lt {w : World} {g : Nat} {ok : Nat → Prop} {s : RS} (h : RF w g ok s) : g < w.heap.size := h.rb.lt
theorem RF.start {w : World} {g : Nat} {ok : Nat → Prop} {s : RS} (h : RF w g ok s) {b : Nat} (hb : b = w.heap.size) : RF w g (fun k => ((ok k ∧ k < b) ∨ b ≤ k) ∧ some k ≠ (Value.slice none (0 : Int).toNat 0).ownBlock) s := by
  subst hb
  obtain ⟨A, c, h1, h2, h3⟩ := h
  exact ⟨A, c, h1, h2, Kd.F_mono (Kd.F_bound h3) (fun k hk => ⟨.inl hk, by simp [Value.ownBlock]⟩)⟩
theorem RF.round {w wr w1 w2 : World} {g : Nat} {s : RS} {ok0 : Nat → Prop} {v v2 : Value} (h : RF w1 g (fun k => ((((ok0 k ∧ k < w.heap.size) ∨ w.heap.size ≤ k) ∧ some k ≠ v.ownBlock) ∧ k < wr.heap.size) ∨ wr.heap.size ≤ k) s) (hw : w.heap.size ≤ wr.heap.size)
    (hv : ∀ k, v.ownBlock = some k → w.heap.size ≤ k ∧ k < wr.heap.size) (hg : g < w.heap.size) (hgr : w1.grownBy w2 v.ownBlock) (hat : v2.ownBlock = v.ownBlock ∨ ∃ b, v2.ownBlock = some b ∧ w1.heap.size ≤ b) : RF w2 g (fun k => ((ok0 k ∧ k < w.heap.size) ∨ w.heap.size ≤ k) ∧ some k ≠ v2.ownBlock) s := by
  obtain ⟨A, c, h1, h2, h3⟩ := h
  refine ⟨A, c, blk_grown h1 hgr (fun he => by have := (hv g he.symm).1; omega), h2, Kd.F_after (Kd.F_mono h3 (fun k hk => ?_)) hgr hat⟩
  rcases hk with hk | hk
  · exact hk.1
  exact ⟨.inr (Nat.le_trans hw hk), fun he => by have := (hv k he.symm).2; omega⟩
theorem keep_round {w w1 w2 : World} {g n : Nat} {v : Value} (hk : KB w w1 g) (hg : w1.grownBy w2 v.ownBlock) (hb : Below n w1 w2) (hv : ∀ k, v.ownBlock = some k → w.heap.size ≤ k) : KB w w2 g := by
  refine ⟨hk.1.trans (KeepBut.of_grown hg g) ?_, hb.os.trans hk.2.1, hb.tape.trans hk.2.2.1, hb.output.trans hk.2.2.2⟩
  rcases hq : v.ownBlock with _ | b
  · exact .inl rfl
  exact .inr ⟨b, rfl, hv b hq⟩
theorem R_keepB {α : Type} {d : Kd α} {e : Nat} {W W1 : World} {base g : Nat} {ok : Nat → Prop} {v : Value} {xs : List α} (h : d.R e W base ok v xs) (hk : KeepBut W W1 g none) (hg : g < base) : d.R e W1 base ok v xs :=
  Kd.R_mono (Kd.R_step (Kd.R_bound h) (fun k hk' hlt => hk.2 k hlt (by have := hk'.2.1; omega) (by simp))) (fun k hk => hk.1)
theorem R_ownb {α : Type} {d : Kd α} {e : Nat} {W : World} {base : Nat} {ok : Nat → Prop} {v : Value} {xs : List α} (h : d.R e W base ok v xs) : ∀ k, v.ownBlock = some k → base ≤ k ∧ k < W.heap.size := fun k hk => by
  have := (Kd.R_bound h).1 k hk
  exact ⟨this.2.1, this.2.2.1⟩
def Fine {α : Type} (next : RS → α × RS) : Prop := ∀ s : RS, BI s.1 → BI (next s).2.1 ∧ (next s).2.1.length ≤ s.1.length
theorem fine_num : Fine numR := fun s h => numR_BI s h
theorem fine_less : Fine lessR := fun s h => numR_BI s h
theorem fine_act : Fine actR := fun s h => numR_BI s h
theorem fine_many {α : Type} {next : RS → α × RS} (h : Fine next) : ∀ n : Nat, Fine (manyR next n)
  | 0, s, hB => ⟨hB, Nat.le_refl _⟩
  | n + 1, s, hB => by
    have h1 := h s hB
    have h2 := fine_many h n (next s).2 h1.1
    exact ⟨h2.1, Nat.le_trans h2.2 h1.2⟩
theorem num_f (g : Nat) (s : RS) (ok0 : Nat → Prop) (w : World) (hr : RF w g ok0 s) (hB : BI s.1) (hl : s.1.length < 225179981368000) :
    Calls Try.prog 59 #[.pointer (some ⟨g, 0, none⟩)] w fun e' w' => e' = .returned (.int .i64 (numR s).1) ∧ RF w' g (fun k => (ok0 k ∧ k < w.heap.size) ∨ w.heap.size ≤ k) (numR s).2 ∧ KB w w' g :=
  (num_n g s w hr.rb hB hl).mono (fun e' w' h => ⟨h.1, (RF.own h.2.1).mono (fun k hk => .inr hk), h.2.2⟩)
theorem less_f (g : Nat) (s : RS) (ok0 : Nat → Prop) (w : World) (hr : RF w g ok0 s) (hB : BI s.1) (hl : s.1.length < 225179981368000) :
    Calls Try.prog 61 #[.pointer (some ⟨g, 0, none⟩)] w fun e' w' => e' = .returned (.int .i64 (lessR s).1) ∧ RF w' g (fun k => (ok0 k ∧ k < w.heap.size) ∨ w.heap.size ≤ k) (lessR s).2 ∧ KB w w' g :=
  (less_n g s w hr.rb hB hl).mono (fun e' w' h => ⟨h.1, (RF.own h.2.1).mono (fun k hk => .inr hk), h.2.2⟩)
theorem act_f (g : Nat) (s : RS) (ok0 : Nat → Prop) (w : World) (hr : RF w g ok0 s) (hB : BI s.1) (hl : s.1.length < 225179981368000) :
    Calls Try.prog 64 #[.pointer (some ⟨g, 0, none⟩)] w fun e' w' => e' = .returned (.agg #[.int .i64 (actR s).1.f0, .int .i64 (actR s).1.f1]) ∧ RF w' g (fun k => (ok0 k ∧ k < w.heap.size) ∨ w.heap.size ≤ k) (actR s).2 ∧ KB w w' g :=
  (ract_n g s w hr.rb hB hl).mono (fun e' w' h => ⟨h.1, (RF.own h.2.1).mono (fun k hk => .inr hk), h.2.2⟩)
set_option maxHeartbeats 8000000 in
set_option maxRecDepth 100000 in
theorem many_less (n : Nat) (hn : n ≤ 200000) (g : Nat) (s : RS) (ok0 : Nat → Prop) (w : World) (hr : RF w g ok0 s) (hB : BI s.1) (hl : s.1.length < 225179981368000) :
    Calls Try.prog 62 #[.int .i64 (n : Int), .func (.func 61) #[.pointer (some ⟨g, 0, none⟩)] #[]] w fun e w' => ∃ v, e = .returned v ∧ Kd.R (Kd.int .i64) 3 w' w.heap.size (fun _ => True) v (manyR lessR n s).1 ∧ RF w' g (fun k => ((ok0 k ∧ k < w.heap.size) ∨ w.heap.size ≤ k) ∧ some k ≠ v.ownBlock) (manyR lessR n s).2 ∧ KB w w' g := by
  have HRF := Aside0.mk hr
  have HG := Aside0.mk hr.lt
  have HN := Aside0.mk hn
  clear hn
  go_enter Try.func62, Try.ntmps62
  go_wp2_with (fail)
  go_loopg [5, 7] (n + 1) (fun kq v5 v7 w' => ∃ (i : Int) (A : Option Addr) (c : Nat), v7 = .int .i64 i ∧ v5 = .slice A i.toNat c ∧ Aside0 (0 ≤ i) ∧ Aside0 (i ≤ (n : Int)) ∧ Aside0 ((kq : Int) + i = (n : Int) + 1) ∧ Aside0 (Kd.R (Kd.int .i64) 3 w' w.heap.size (fun _ => True) (.slice A i.toNat c) (manyR lessR i.toNat s).1) ∧ Aside0 (RF w' g (fun k => ((ok0 k ∧ k < w.heap.size) ∨ w.heap.size ≤ k) ∧ some k ≠ (Value.slice A i.toNat c).ownBlock) (manyR lessR i.toNat s).2) ∧ Aside0 (KB w w' g))
  case atStart => exact ⟨0, none, 0, rfl, rfl, ⟨by decide⟩, ⟨by omega⟩, ⟨by omega⟩, ⟨Kd.R_nil _ _ _ _ _⟩, ⟨HRF.out.start rfl⟩, ⟨KB.refl _ _⟩⟩
  obtain ⟨i, A, c, rfl, rfl, hi0, hi1, hk, hR, hF, hK⟩ := hrel
  have hkk := hk.out
  by_cases hlt : i < (n : Int)
  · have l1 : decide (i < (n : Int)) = true := decide_eq_true hlt
    have hwi : IntKind.i64.wrap (i + 1) = i + 1 := by have := hi0.out; have := HN.out; simp only [i64_w]; unfold wrap64; omega
    have HSN := Aside0.mk (show manyR lessR (i + 1).toNat s = ((manyR lessR i.toNat s).1 ++ [(lessR (manyR lessR i.toNat s).2).1], (lessR (manyR lessR i.toNat s).2).2) from by rw [show (i + 1).toNat = i.toNat + 1 by have := hi0.out; omega]; exact manyR_snoc lessR i.toNat s)
    have HLN := Aside0.mk (manyR_length lessR i.toNat s)
    have HFI := Aside0.mk (fine_many fine_less i.toNat s hB)
    have HLT := Aside0.mk hlt
    have HOWN := Aside0.mk (R_ownb hR.out)
    generalize (manyR lessR i.toNat s).1 = xs at hR HSN HLN
    generalize (manyR lessR i.toNat s).2 = si at hF HSN HFI
    clear hlt
    go_wp2_with (first | (go_at_call 61; refine (less_f g si _ wr (by exact hF.out) HFI.out.1 (by have := HFI.out.2; omega)).mono ?_; rintro e' w1 ⟨rfl, hF1, hk1⟩) | ((with_reducible refine gate_builtin (b := .append) (xs := #[.tmp 9, .tmp 12]) rfl ?_); at_builtin; refine Kd.R_append (Kd.int .i64) (w0 := w1) w.heap.size rfl (.tmp 9) (.tmp 12) 24 3 (.int .i64 0) 8 rfl Try.underlying24 info3 rfl (by decide) (by omega) (.slice A i.toNat c) xs (lessR si).1 [.int .i64 (lessR si).1] (fun _ => True) (fun _ => False) rfl rfl rfl (fun k h => h.elim) (fun _ _ => trivial) (R_keepB hR.out hk1.1 HG.out) (Below.refl _ _) (by have := hK.out.1.1; have := hk1.1.1; omega) (by rw [HLN.out]; have := HN.out; have := HLT.out; omega) ?_; intro v2 w2 hR2 hB2 hg2 hat2; obtain ⟨A2, c2, e2⟩ := Kd.R_slice hR2; rw [List.length_append, HLN.out, List.length_singleton] at e2; subst e2))
    go_roundg (gk - 1)
    case measure => have := HLT.out; have := hi0.out; omega
    case rel =>
      have hj : i.toNat + 1 = (i + 1).toNat := by have := hi0.out; omega
      refine ⟨i + 1, A2, c2, rfl, by rw [← hj], ⟨by have := hi0.out; omega⟩, ⟨by have := HLT.out; omega⟩, ⟨by have := HLT.out; omega⟩, ⟨?_⟩, ⟨?_⟩, ⟨keep_round (hK.out.trans hk1) hg2 hB2 (fun k hk => (HOWN.out k hk).1)⟩⟩
      · rw [HSN.out, ← hj]; exact hR2
      rw [HSN.out, ← hj]; exact RF.round hF1 hK.out.1.1 HOWN.out HG.out hg2 hat2
  have l1 : decide (i < (n : Int)) = false := decide_eq_false hlt
  have HI := Aside0.mk (show i.toNat = n from by have := hi0.out; have := hi1.out; omega)
  clear hkk hk hlt
  go_wp2_with (fail)
  go_ret
  rw [HI.out] at hR hF ⊢
  exact ⟨_, rfl, hR.out, hF.out, hK.out⟩
set_option maxHeartbeats 8000000 in
set_option maxRecDepth 100000 in
theorem many_num (n : Nat) (hn : n ≤ 200000) (g : Nat) (s : RS) (ok0 : Nat → Prop) (w : World) (hr : RF w g ok0 s) (hB : BI s.1) (hl : s.1.length < 225179981368000) :
    Calls Try.prog 62 #[.int .i64 (n : Int), .func (.func 59) #[.pointer (some ⟨g, 0, none⟩)] #[]] w fun e w' => ∃ v, e = .returned v ∧ Kd.R (Kd.int .i64) 3 w' w.heap.size (fun _ => True) v (manyR numR n s).1 ∧ RF w' g (fun k => ((ok0 k ∧ k < w.heap.size) ∨ w.heap.size ≤ k) ∧ some k ≠ v.ownBlock) (manyR numR n s).2 ∧ KB w w' g := by
  have HRF := Aside0.mk hr
  have HG := Aside0.mk hr.lt
  have HN := Aside0.mk hn
  clear hn
  go_enter Try.func62, Try.ntmps62
  go_wp2_with (fail)
  go_loopg [5, 7] (n + 1) (fun kq v5 v7 w' => ∃ (i : Int) (A : Option Addr) (c : Nat), v7 = .int .i64 i ∧ v5 = .slice A i.toNat c ∧ Aside0 (0 ≤ i) ∧ Aside0 (i ≤ (n : Int)) ∧ Aside0 ((kq : Int) + i = (n : Int) + 1) ∧ Aside0 (Kd.R (Kd.int .i64) 3 w' w.heap.size (fun _ => True) (.slice A i.toNat c) (manyR numR i.toNat s).1) ∧ Aside0 (RF w' g (fun k => ((ok0 k ∧ k < w.heap.size) ∨ w.heap.size ≤ k) ∧ some k ≠ (Value.slice A i.toNat c).ownBlock) (manyR numR i.toNat s).2) ∧ Aside0 (KB w w' g))
  case atStart => exact ⟨0, none, 0, rfl, rfl, ⟨by decide⟩, ⟨by omega⟩, ⟨by omega⟩, ⟨Kd.R_nil _ _ _ _ _⟩, ⟨HRF.out.start rfl⟩, ⟨KB.refl _ _⟩⟩
  obtain ⟨i, A, c, rfl, rfl, hi0, hi1, hk, hR, hF, hK⟩ := hrel
  have hkk := hk.out
  by_cases hlt : i < (n : Int)
  · have l1 : decide (i < (n : Int)) = true := decide_eq_true hlt
    have hwi : IntKind.i64.wrap (i + 1) = i + 1 := by have := hi0.out; have := HN.out; simp only [i64_w]; unfold wrap64; omega
    have HSN := Aside0.mk (show manyR numR (i + 1).toNat s = ((manyR numR i.toNat s).1 ++ [(numR (manyR numR i.toNat s).2).1], (numR (manyR numR i.toNat s).2).2) from by rw [show (i + 1).toNat = i.toNat + 1 by have := hi0.out; omega]; exact manyR_snoc numR i.toNat s)
    have HLN := Aside0.mk (manyR_length numR i.toNat s)
    have HFI := Aside0.mk (fine_many fine_num i.toNat s hB)
    have HLT := Aside0.mk hlt
    have HOWN := Aside0.mk (R_ownb hR.out)
    generalize (manyR numR i.toNat s).1 = xs at hR HSN HLN
    generalize (manyR numR i.toNat s).2 = si at hF HSN HFI
    clear hlt
    go_wp2_with (first | (go_at_call 59; refine (num_f g si _ wr (by exact hF.out) HFI.out.1 (by have := HFI.out.2; omega)).mono ?_; rintro e' w1 ⟨rfl, hF1, hk1⟩) | ((with_reducible refine gate_builtin (b := .append) (xs := #[.tmp 9, .tmp 12]) rfl ?_); at_builtin; refine Kd.R_append (Kd.int .i64) (w0 := w1) w.heap.size rfl (.tmp 9) (.tmp 12) 24 3 (.int .i64 0) 8 rfl Try.underlying24 info3 rfl (by decide) (by omega) (.slice A i.toNat c) xs (numR si).1 [.int .i64 (numR si).1] (fun _ => True) (fun _ => False) rfl rfl rfl (fun k h => h.elim) (fun _ _ => trivial) (R_keepB hR.out hk1.1 HG.out) (Below.refl _ _) (by have := hK.out.1.1; have := hk1.1.1; omega) (by rw [HLN.out]; have := HN.out; have := HLT.out; omega) ?_; intro v2 w2 hR2 hB2 hg2 hat2; obtain ⟨A2, c2, e2⟩ := Kd.R_slice hR2; rw [List.length_append, HLN.out, List.length_singleton] at e2; subst e2))
    go_roundg (gk - 1)
    case measure => have := HLT.out; have := hi0.out; omega
    case rel =>
      have hj : i.toNat + 1 = (i + 1).toNat := by have := hi0.out; omega
      refine ⟨i + 1, A2, c2, rfl, by rw [← hj], ⟨by have := hi0.out; omega⟩, ⟨by have := HLT.out; omega⟩, ⟨by have := HLT.out; omega⟩, ⟨?_⟩, ⟨?_⟩, ⟨keep_round (hK.out.trans hk1) hg2 hB2 (fun k hk => (HOWN.out k hk).1)⟩⟩
      · rw [HSN.out, ← hj]; exact hR2
      rw [HSN.out, ← hj]; exact RF.round hF1 hK.out.1.1 HOWN.out HG.out hg2 hat2
  have l1 : decide (i < (n : Int)) = false := decide_eq_false hlt
  have HI := Aside0.mk (show i.toNat = n from by have := hi0.out; have := hi1.out; omega)
  clear hkk hk hlt
  go_wp2_with (fail)
  go_ret
  rw [HI.out] at hR hF ⊢
  exact ⟨_, rfl, hR.out, hF.out, hK.out⟩
set_option maxHeartbeats 8000000 in
set_option maxRecDepth 100000 in
theorem many_act (n : Nat) (hn : n ≤ 200000) (g : Nat) (s : RS) (ok0 : Nat → Prop) (w : World) (hr : RF w g ok0 s) (hB : BI s.1) (hl : s.1.length < 225179981368000) :
    Calls Try.prog 84 #[.int .i64 (n : Int), .func (.func 64) #[.pointer (some ⟨g, 0, none⟩)] #[]] w fun e w' => ∃ v, e = .returned v ∧ Kd.R k38 38 w' w.heap.size (fun _ => True) v (manyR actR n s).1 ∧ RF w' g (fun k => ((ok0 k ∧ k < w.heap.size) ∨ w.heap.size ≤ k) ∧ some k ≠ v.ownBlock) (manyR actR n s).2 ∧ KB w w' g := by
  have HRF := Aside0.mk hr
  have HG := Aside0.mk hr.lt
  have HN := Aside0.mk hn
  clear hn
  go_enter Try.func84, Try.ntmps84
  go_wp2_with (fail)
  go_loopg [5, 7] (n + 1) (fun kq v5 v7 w' => ∃ (i : Int) (A : Option Addr) (c : Nat), v7 = .int .i64 i ∧ v5 = .slice A i.toNat c ∧ Aside0 (0 ≤ i) ∧ Aside0 (i ≤ (n : Int)) ∧ Aside0 ((kq : Int) + i = (n : Int) + 1) ∧ Aside0 (Kd.R k38 38 w' w.heap.size (fun _ => True) (.slice A i.toNat c) (manyR actR i.toNat s).1) ∧ Aside0 (RF w' g (fun k => ((ok0 k ∧ k < w.heap.size) ∨ w.heap.size ≤ k) ∧ some k ≠ (Value.slice A i.toNat c).ownBlock) (manyR actR i.toNat s).2) ∧ Aside0 (KB w w' g))
  case atStart => exact ⟨0, none, 0, rfl, rfl, ⟨by decide⟩, ⟨by omega⟩, ⟨by omega⟩, ⟨Kd.R_nil _ _ _ _ _⟩, ⟨HRF.out.start rfl⟩, ⟨KB.refl _ _⟩⟩
  obtain ⟨i, A, c, rfl, rfl, hi0, hi1, hk, hR, hF, hK⟩ := hrel
  have hkk := hk.out
  by_cases hlt : i < (n : Int)
  · have l1 : decide (i < (n : Int)) = true := decide_eq_true hlt
    have hwi : IntKind.i64.wrap (i + 1) = i + 1 := by have := hi0.out; have := HN.out; simp only [i64_w]; unfold wrap64; omega
    have HSN := Aside0.mk (show manyR actR (i + 1).toNat s = ((manyR actR i.toNat s).1 ++ [(actR (manyR actR i.toNat s).2).1], (actR (manyR actR i.toNat s).2).2) from by rw [show (i + 1).toNat = i.toNat + 1 by have := hi0.out; omega]; exact manyR_snoc actR i.toNat s)
    have HLN := Aside0.mk (manyR_length actR i.toNat s)
    have HFI := Aside0.mk (fine_many fine_act i.toNat s hB)
    have HLT := Aside0.mk hlt
    have HOWN := Aside0.mk (R_ownb hR.out)
    generalize (manyR actR i.toNat s).1 = xs at hR HSN HLN
    generalize (manyR actR i.toNat s).2 = si at hF HSN HFI
    clear hlt
    go_wp2_with (first | (go_at_call 64; refine (act_f g si _ wr (by exact hF.out) HFI.out.1 (by have := HFI.out.2; omega)).mono ?_; rintro e' w1 ⟨rfl, hF1, hk1⟩) | ((with_reducible refine gate_builtin (b := .append) (xs := #[.tmp 9, .tmp 12]) rfl ?_); at_builtin; refine Kd.R_append k38 (w0 := w1) w.heap.size rfl (.tmp 9) (.tmp 12) 39 38 (.agg #[.int .i64 0, .int .i64 0]) 16 rfl Try.underlying39 infoM38 rfl (by decide) (by omega) (.slice A i.toNat c) xs (actR si).1 [.int .i64 (actR si).1.f0, .int .i64 (actR si).1.f1] (fun _ => True) (fun _ => False) rfl rfl (k38_mkM _ _ _ _) (fun k h => h.elim) (fun _ _ => trivial) (R_keepB hR.out hk1.1 HG.out) (Below.refl _ _) (by have := hK.out.1.1; have := hk1.1.1; omega) (by rw [HLN.out]; have := HN.out; have := HLT.out; omega) ?_; intro v2 w2 hR2 hB2 hg2 hat2; obtain ⟨A2, c2, e2⟩ := Kd.R_slice hR2; rw [List.length_append, HLN.out, List.length_singleton] at e2; subst e2))
    go_roundg (gk - 1)
    case measure => have := HLT.out; have := hi0.out; omega
    case rel =>
      have hj : i.toNat + 1 = (i + 1).toNat := by have := hi0.out; omega
      refine ⟨i + 1, A2, c2, rfl, by rw [← hj], ⟨by have := hi0.out; omega⟩, ⟨by have := HLT.out; omega⟩, ⟨by have := HLT.out; omega⟩, ⟨?_⟩, ⟨?_⟩, ⟨keep_round (hK.out.trans hk1) hg2 hB2 (fun k hk => (HOWN.out k hk).1)⟩⟩
      · rw [HSN.out, ← hj]; exact hR2
      rw [HSN.out, ← hj]; exact RF.round hF1 hK.out.1.1 HOWN.out HG.out hg2 hat2
  have l1 : decide (i < (n : Int)) = false := decide_eq_false hlt
  have HI := Aside0.mk (show i.toNat = n from by have := hi0.out; have := hi1.out; omega)
  clear hkk hk hlt
  go_wp2_with (fail)
  go_ret
  rw [HI.out] at hR hF ⊢
  exact ⟨_, rfl, hR.out, hF.out, hK.out⟩
set_option maxHeartbeats 8000000 in
theorem clo_less (m : Nat) (hm : m ≤ 200000) (q1 q2 : Addr) (g : Nat) (s : RS) (ok0 : Nat → Prop) (w : World) (hr : RF w g ok0 s) (hB : BI s.1) (hl : s.1.length < 225179981368000) (k1 : w.cell? q1 = some (.int .i64 (m : Int))) (k2 : w.cell? q2 = some (.func (.func 61) #[.pointer (some ⟨g, 0, none⟩)] #[])) :
    Calls Try.prog 81 #[.pointer (some q1), .pointer (some q2)] w fun e w' => ∃ v, e = .returned v ∧ Kd.R (Kd.int .i64) 3 w' w.heap.size (fun _ => True) v (manyR lessR m s).1 ∧ RF w' g (fun k => ((ok0 k ∧ k < w.heap.size) ∨ w.heap.size ≤ k) ∧ some k ≠ v.ownBlock) (manyR lessR m s).2 ∧ KB w w' g := by
  go_enter Try.func81, Try.ntmps81
  go_wp2_with (first | (go_at_call 62; refine (many_less m hm g s ok0 _ hr hB hl).mono ?_; rintro e w1 ⟨v1, rfl, hR1, hF1, hk1⟩))
  go_ret
  exact ⟨_, rfl, hR1, hF1, hk1⟩
set_option maxHeartbeats 8000000 in
theorem clo_act (m : Nat) (hm : m ≤ 200000) (q1 q2 : Addr) (g : Nat) (s : RS) (ok0 : Nat → Prop) (w : World) (hr : RF w g ok0 s) (hB : BI s.1) (hl : s.1.length < 225179981368000) (k1 : w.cell? q1 = some (.int .i64 (m : Int))) (k2 : w.cell? q2 = some (.func (.func 64) #[.pointer (some ⟨g, 0, none⟩)] #[])) :
    Calls Try.prog 83 #[.pointer (some q1), .pointer (some q2)] w fun e w' => ∃ v, e = .returned v ∧ Kd.R k38 38 w' w.heap.size (fun _ => True) v (manyR actR m s).1 ∧ RF w' g (fun k => ((ok0 k ∧ k < w.heap.size) ∨ w.heap.size ≤ k) ∧ some k ≠ v.ownBlock) (manyR actR m s).2 ∧ KB w w' g := by
  go_enter Try.func83, Try.ntmps83
  go_wp2_with (first | (go_at_call 84; refine (many_act m hm g s ok0 _ hr hB hl).mono ?_; rintro e w1 ⟨v1, rfl, hR1, hF1, hk1⟩))
  go_ret
  exact ⟨_, rfl, hR1, hF1, hk1⟩
set_option maxHeartbeats 8000000 in
set_option maxRecDepth 100000 in
theorem many_lesses (m : Nat) (hm : m ≤ 200000) (b1 b2 : Nat) (n : Nat) (hn : n ≤ 200000) (g : Nat) (s : RS) (ok0 : Nat → Prop) (w : World) (hr : RF w g ok0 s) (hB : BI s.1) (hl : s.1.length < 225179981368000) (h1 : b1 ≠ g) (h2 : b2 ≠ g) (k1 : w.cell? ⟨b1, 0, none⟩ = some (.int .i64 (m : Int))) (k2 : w.cell? ⟨b2, 0, none⟩ = some (.func (.func 61) #[.pointer (some ⟨g, 0, none⟩)] #[])) :
    Calls Try.prog 80 #[.int .i64 (n : Int), .func (.func 81) #[] #[.pointer (some ⟨b1, 0, none⟩), .pointer (some ⟨b2, 0, none⟩)]] w fun e w' => ∃ v, e = .returned v ∧ Kd.R (Kd.slice 3 (Kd.int .i64)) 24 w' w.heap.size (fun _ => True) v (manyR (manyR lessR m) n s).1 ∧ RF w' g (fun k => ((ok0 k ∧ k < w.heap.size) ∨ w.heap.size ≤ k) ∧ some k ≠ v.ownBlock) (manyR (manyR lessR m) n s).2 ∧ KB w w' g := by
  have HRF := Aside0.mk hr
  have HG := Aside0.mk hr.lt
  have HN := Aside0.mk hn
  clear hn
  go_enter Try.func80, Try.ntmps80
  go_wp2_with (fail)
  go_loopg [5, 7] (n + 1) (fun kq v5 v7 w' => ∃ (i : Int) (A : Option Addr) (c : Nat), v7 = .int .i64 i ∧ v5 = .slice A i.toNat c ∧ Aside0 (0 ≤ i) ∧ Aside0 (i ≤ (n : Int)) ∧ Aside0 ((kq : Int) + i = (n : Int) + 1) ∧ Aside0 (Kd.R (Kd.slice 3 (Kd.int .i64)) 24 w' w.heap.size (fun _ => True) (.slice A i.toNat c) (manyR (manyR lessR m) i.toNat s).1) ∧ Aside0 (RF w' g (fun k => ((ok0 k ∧ k < w.heap.size) ∨ w.heap.size ≤ k) ∧ some k ≠ (Value.slice A i.toNat c).ownBlock) (manyR (manyR lessR m) i.toNat s).2) ∧ Aside0 (KB w w' g))
  case atStart => exact ⟨0, none, 0, rfl, rfl, ⟨by decide⟩, ⟨by omega⟩, ⟨by omega⟩, ⟨Kd.R_nil _ _ _ _ _⟩, ⟨HRF.out.start rfl⟩, ⟨KB.refl _ _⟩⟩
  obtain ⟨i, A, c, rfl, rfl, hi0, hi1, hk, hR, hF, hK⟩ := hrel
  have hkk := hk.out
  by_cases hlt : i < (n : Int)
  · have l1 : decide (i < (n : Int)) = true := decide_eq_true hlt
    have hwi : IntKind.i64.wrap (i + 1) = i + 1 := by have := hi0.out; have := HN.out; simp only [i64_w]; unfold wrap64; omega
    have HSN := Aside0.mk (show manyR (manyR lessR m) (i + 1).toNat s = ((manyR (manyR lessR m) i.toNat s).1 ++ [((manyR lessR m) (manyR (manyR lessR m) i.toNat s).2).1], ((manyR lessR m) (manyR (manyR lessR m) i.toNat s).2).2) from by rw [show (i + 1).toNat = i.toNat + 1 by have := hi0.out; omega]; exact manyR_snoc (manyR lessR m) i.toNat s)
    have HLN := Aside0.mk (manyR_length (manyR lessR m) i.toNat s)
    have HFI := Aside0.mk (fine_many (fine_many fine_less m) i.toNat s hB)
    have HLT := Aside0.mk hlt
    have HOWN := Aside0.mk (R_ownb hR.out)
    generalize (manyR (manyR lessR m) i.toNat s).1 = xs at hR HSN HLN
    generalize (manyR (manyR lessR m) i.toNat s).2 = si at hF HSN HFI
    clear hlt
    have kr1 := keep_cell hK.out.1 k1 h1
    have kr2 := keep_cell hK.out.1 k2 h2
    go_wp2_with (first | (go_at_call 81; refine (clo_less m hm ⟨b1, 0, none⟩ ⟨b2, 0, none⟩ g si _ wr (by exact hF.out) HFI.out.1 (by have := HFI.out.2; omega) kr1 kr2).mono ?_; rintro e' w1 ⟨v1, rfl, hR1, hF1_, hk1⟩; have hF1 := hF1_.mono (fun k hk => hk.1); obtain ⟨A1, c1, e1⟩ := Kd.R_slice hR1; subst e1) | ((with_reducible refine gate_builtin (b := .append) (xs := #[.tmp 9, .tmp 12]) rfl ?_); at_builtin; refine Kd.R_append (Kd.slice 3 (Kd.int .i64)) (w0 := w1) w.heap.size rfl (.tmp 9) (.tmp 12) 23 24 (.slice none 0 0) 24 rfl Try.underlying23 info24 rfl (by decide) (by omega) (.slice A i.toNat c) xs ((manyR lessR m) si).1 [.slice A1 (manyR lessR m si).1.length c1] (fun _ => True) (fun k => wr.heap.size ≤ k) rfl rfl ⟨_, rfl, Kd.R_lower (Kd.R_mono (Kd.R_bound hR1) (fun k hk => hk.2.1)) hK.out.1.1⟩ (fun k hk => ⟨trivial, fun he => by have := (HOWN.out k he.symm).2; omega⟩) (fun _ _ => trivial) (R_keepB hR.out hk1.1 HG.out) (Below.refl _ _) (by have := hK.out.1.1; have := hk1.1.1; omega) (by rw [HLN.out]; have := HN.out; have := HLT.out; omega) ?_; intro v2 w2 hR2 hB2 hg2 hat2; obtain ⟨A2, c2, e2⟩ := Kd.R_slice hR2; rw [List.length_append, HLN.out, List.length_singleton] at e2; subst e2))
    go_roundg (gk - 1)
    case measure => have := HLT.out; have := hi0.out; omega
    case rel =>
      have hj : i.toNat + 1 = (i + 1).toNat := by have := hi0.out; omega
      refine ⟨i + 1, A2, c2, rfl, by rw [← hj], ⟨by have := hi0.out; omega⟩, ⟨by have := HLT.out; omega⟩, ⟨by have := HLT.out; omega⟩, ⟨?_⟩, ⟨?_⟩, ⟨keep_round (hK.out.trans hk1) hg2 hB2 (fun k hk => (HOWN.out k hk).1)⟩⟩
      · rw [HSN.out, ← hj]; exact hR2
      rw [HSN.out, ← hj]; exact RF.round hF1 hK.out.1.1 HOWN.out HG.out hg2 hat2
  have l1 : decide (i < (n : Int)) = false := decide_eq_false hlt
  have HI := Aside0.mk (show i.toNat = n from by have := hi0.out; have := hi1.out; omega)
  clear hkk hk hlt
  go_wp2_with (fail)
  go_ret
  rw [HI.out] at hR hF ⊢
  exact ⟨_, rfl, hR.out, hF.out, hK.out⟩
set_option maxHeartbeats 8000000 in
set_option maxRecDepth 100000 in
theorem many_acts (m : Nat) (hm : m ≤ 200000) (b1 b2 : Nat) (n : Nat) (hn : n ≤ 200000) (g : Nat) (s : RS) (ok0 : Nat → Prop) (w : World) (hr : RF w g ok0 s) (hB : BI s.1) (hl : s.1.length < 225179981368000) (h1 : b1 ≠ g) (h2 : b2 ≠ g) (k1 : w.cell? ⟨b1, 0, none⟩ = some (.int .i64 (m : Int))) (k2 : w.cell? ⟨b2, 0, none⟩ = some (.func (.func 64) #[.pointer (some ⟨g, 0, none⟩)] #[])) :
    Calls Try.prog 82 #[.int .i64 (n : Int), .func (.func 83) #[] #[.pointer (some ⟨b1, 0, none⟩), .pointer (some ⟨b2, 0, none⟩)]] w fun e w' => ∃ v, e = .returned v ∧ Kd.R (Kd.slice 38 k38) 39 w' w.heap.size (fun _ => True) v (manyR (manyR actR m) n s).1 ∧ RF w' g (fun k => ((ok0 k ∧ k < w.heap.size) ∨ w.heap.size ≤ k) ∧ some k ≠ v.ownBlock) (manyR (manyR actR m) n s).2 ∧ KB w w' g := by
  have HRF := Aside0.mk hr
  have HG := Aside0.mk hr.lt
  have HN := Aside0.mk hn
  clear hn
  go_enter Try.func82, Try.ntmps82
  go_wp2_with (fail)
  go_loopg [5, 7] (n + 1) (fun kq v5 v7 w' => ∃ (i : Int) (A : Option Addr) (c : Nat), v7 = .int .i64 i ∧ v5 = .slice A i.toNat c ∧ Aside0 (0 ≤ i) ∧ Aside0 (i ≤ (n : Int)) ∧ Aside0 ((kq : Int) + i = (n : Int) + 1) ∧ Aside0 (Kd.R (Kd.slice 38 k38) 39 w' w.heap.size (fun _ => True) (.slice A i.toNat c) (manyR (manyR actR m) i.toNat s).1) ∧ Aside0 (RF w' g (fun k => ((ok0 k ∧ k < w.heap.size) ∨ w.heap.size ≤ k) ∧ some k ≠ (Value.slice A i.toNat c).ownBlock) (manyR (manyR actR m) i.toNat s).2) ∧ Aside0 (KB w w' g))
  case atStart => exact ⟨0, none, 0, rfl, rfl, ⟨by decide⟩, ⟨by omega⟩, ⟨by omega⟩, ⟨Kd.R_nil _ _ _ _ _⟩, ⟨HRF.out.start rfl⟩, ⟨KB.refl _ _⟩⟩
  obtain ⟨i, A, c, rfl, rfl, hi0, hi1, hk, hR, hF, hK⟩ := hrel
  have hkk := hk.out
  by_cases hlt : i < (n : Int)
  · have l1 : decide (i < (n : Int)) = true := decide_eq_true hlt
    have hwi : IntKind.i64.wrap (i + 1) = i + 1 := by have := hi0.out; have := HN.out; simp only [i64_w]; unfold wrap64; omega
    have HSN := Aside0.mk (show manyR (manyR actR m) (i + 1).toNat s = ((manyR (manyR actR m) i.toNat s).1 ++ [((manyR actR m) (manyR (manyR actR m) i.toNat s).2).1], ((manyR actR m) (manyR (manyR actR m) i.toNat s).2).2) from by rw [show (i + 1).toNat = i.toNat + 1 by have := hi0.out; omega]; exact manyR_snoc (manyR actR m) i.toNat s)
    have HLN := Aside0.mk (manyR_length (manyR actR m) i.toNat s)
    have HFI := Aside0.mk (fine_many (fine_many fine_act m) i.toNat s hB)
    have HLT := Aside0.mk hlt
    have HOWN := Aside0.mk (R_ownb hR.out)
    generalize (manyR (manyR actR m) i.toNat s).1 = xs at hR HSN HLN
    generalize (manyR (manyR actR m) i.toNat s).2 = si at hF HSN HFI
    clear hlt
    have kr1 := keep_cell hK.out.1 k1 h1
    have kr2 := keep_cell hK.out.1 k2 h2
    go_wp2_with (first | (go_at_call 83; refine (clo_act m hm ⟨b1, 0, none⟩ ⟨b2, 0, none⟩ g si _ wr (by exact hF.out) HFI.out.1 (by have := HFI.out.2; omega) kr1 kr2).mono ?_; rintro e' w1 ⟨v1, rfl, hR1, hF1_, hk1⟩; have hF1 := hF1_.mono (fun k hk => hk.1); obtain ⟨A1, c1, e1⟩ := Kd.R_slice hR1; subst e1) | ((with_reducible refine gate_builtin (b := .append) (xs := #[.tmp 9, .tmp 12]) rfl ?_); at_builtin; refine Kd.R_append (Kd.slice 38 k38) (w0 := w1) w.heap.size rfl (.tmp 9) (.tmp 12) 27 39 (.slice none 0 0) 24 rfl Try.underlying27 infoM39 rfl (by decide) (by omega) (.slice A i.toNat c) xs ((manyR actR m) si).1 [.slice A1 (manyR actR m si).1.length c1] (fun _ => True) (fun k => wr.heap.size ≤ k) rfl rfl ⟨_, rfl, Kd.R_lower (Kd.R_mono (Kd.R_bound hR1) (fun k hk => hk.2.1)) hK.out.1.1⟩ (fun k hk => ⟨trivial, fun he => by have := (HOWN.out k he.symm).2; omega⟩) (fun _ _ => trivial) (R_keepB hR.out hk1.1 HG.out) (Below.refl _ _) (by have := hK.out.1.1; have := hk1.1.1; omega) (by rw [HLN.out]; have := HN.out; have := HLT.out; omega) ?_; intro v2 w2 hR2 hB2 hg2 hat2; obtain ⟨A2, c2, e2⟩ := Kd.R_slice hR2; rw [List.length_append, HLN.out, List.length_singleton] at e2; subst e2))
    go_roundg (gk - 1)
    case measure => have := HLT.out; have := hi0.out; omega
    case rel =>
      have hj : i.toNat + 1 = (i + 1).toNat := by have := hi0.out; omega
      refine ⟨i + 1, A2, c2, rfl, by rw [← hj], ⟨by have := hi0.out; omega⟩, ⟨by have := HLT.out; omega⟩, ⟨by have := HLT.out; omega⟩, ⟨?_⟩, ⟨?_⟩, ⟨keep_round (hK.out.trans hk1) hg2 hB2 (fun k hk => (HOWN.out k hk).1)⟩⟩
      · rw [HSN.out, ← hj]; exact hR2
      rw [HSN.out, ← hj]; exact RF.round hF1 hK.out.1.1 HOWN.out HG.out hg2 hat2
  have l1 : decide (i < (n : Int)) = false := decide_eq_false hlt
  have HI := Aside0.mk (show i.toNat = n from by have := hi0.out; have := hi1.out; omega)
  clear hkk hk hlt
  go_wp2_with (fail)
  go_ret
  rw [HI.out] at hR hF ⊢
  exact ⟨_, rfl, hR.out, hF.out, hK.out⟩
set_option maxHeartbeats 8000000 in
set_option maxRecDepth 100000 in
theorem rows_less (n m : Nat) (hn : n ≤ 200000) (hm : m ≤ 200000) (g : Nat) (s : RS) (w : World) (hr : RBS w g s) (hB : BI s.1) (hl : s.1.length < 225179981368000) :
    Calls Try.prog 60 #[.int .i64 (n : Int), .int .i64 (m : Int), .func (.func 61) #[.pointer (some ⟨g, 0, none⟩)] #[]] w fun e w' => ∃ v, e = .returned v ∧ Kd.R (Kd.slice 3 (Kd.int .i64)) 24 w' w.heap.size (fun _ => True) v (manyR (manyR lessR m) n s).1 ∧ RBS w' g (manyR (manyR lessR m) n s).2 ∧ KB w w' g := by
  have HG := Aside0.mk hr.lt
  have hmf : ∀ (fn : Fn) (first cap : Array Value) (w : World), (Instr.makeFunc fn first cap).run Try.prog w = .ok (.func fn first cap) w := fun _ _ _ _ => rfl
  go_enter Try.func60, Try.ntmps60
  go_wp2_with (first | ((with_reducible refine gate_dst (N := 4) rfl ?_); refine box_event ?hg (N := 4) ?hd (cs := #[.int .i64 (m : Int)]) (t := 3) ?hr ?_; (case hd => rfl); (case hg => rfl); (case hr => first | (go_simp; done) | (go_simp; rfl)); intro b1 hg w1 hbx1 hb1; have hz1 : w.heap.size ≤ b1 := Nat.le_of_eq hg.symm; clear hg) | ((with_reducible refine gate_dst (N := 5) rfl ?_); refine box_event ?hg (N := 5) ?hd (cs := #[.func (.func 61) #[.pointer (some ⟨g, 0, none⟩)] #[]]) (t := 100) ?hr ?_; (case hd => rfl); (case hg => rfl); (case hr => first | (go_simp; done) | (go_simp; rfl)); intro b2 hg w2 hbx2 hb2; have hz2 : w1.heap.size ≤ b2 := Nat.le_of_eq hg.symm; clear hg) | (go_at_call 80; have hb12 := below_step hb1 hb2; have hw2 := hb12.size; refine (many_lesses m hm b1 b2 n hn g s _ w2 (RF.of (RB.below hr hb12)) hB hl (by have := HG.out; omega) (by have := HG.out; have := hb1.size; omega) ((blk_cell (blk_below hbx1 hb2) 0).trans rfl) ((blk_cell hbx2 0).trans rfl)).mono ?_; rintro e w3 ⟨v3, rfl, hR3, hF3, hk3⟩))
  go_ret
  exact ⟨_, rfl, Kd.R_lower hR3 hw2, hF3.rb, (KB.of_below hb12 g).trans hk3⟩
set_option maxHeartbeats 8000000 in
set_option maxRecDepth 100000 in
theorem rows_act (n m : Nat) (hn : n ≤ 200000) (hm : m ≤ 200000) (g : Nat) (s : RS) (w : World) (hr : RBS w g s) (hB : BI s.1) (hl : s.1.length < 225179981368000) :
    Calls Try.prog 63 #[.int .i64 (n : Int), .int .i64 (m : Int), .func (.func 64) #[.pointer (some ⟨g, 0, none⟩)] #[]] w fun e w' => ∃ v, e = .returned v ∧ Kd.R (Kd.slice 38 k38) 39 w' w.heap.size (fun _ => True) v (manyR (manyR actR m) n s).1 ∧ RBS w' g (manyR (manyR actR m) n s).2 ∧ KB w w' g := by
  have HG := Aside0.mk hr.lt
  have hmf : ∀ (fn : Fn) (first cap : Array Value) (w : World), (Instr.makeFunc fn first cap).run Try.prog w = .ok (.func fn first cap) w := fun _ _ _ _ => rfl
  go_enter Try.func63, Try.ntmps63
  go_wp2_with (first | ((with_reducible refine gate_dst (N := 4) rfl ?_); refine box_event ?hg (N := 4) ?hd (cs := #[.int .i64 (m : Int)]) (t := 3) ?hr ?_; (case hd => rfl); (case hg => rfl); (case hr => first | (go_simp; done) | (go_simp; rfl)); intro b1 hg w1 hbx1 hb1; have hz1 : w.heap.size ≤ b1 := Nat.le_of_eq hg.symm; clear hg) | ((with_reducible refine gate_dst (N := 5) rfl ?_); refine box_event ?hg (N := 5) ?hd (cs := #[.func (.func 64) #[.pointer (some ⟨g, 0, none⟩)] #[]]) (t := 104) ?hr ?_; (case hd => rfl); (case hg => rfl); (case hr => first | (go_simp; done) | (go_simp; rfl)); intro b2 hg w2 hbx2 hb2; have hz2 : w1.heap.size ≤ b2 := Nat.le_of_eq hg.symm; clear hg) | (go_at_call 82; have hb12 := below_step hb1 hb2; have hw2 := hb12.size; refine (many_acts m hm b1 b2 n hn g s _ w2 (RF.of (RB.below hr hb12)) hB hl (by have := HG.out; omega) (by have := HG.out; have := hb1.size; omega) ((blk_cell (blk_below hbx1 hb2) 0).trans rfl) ((blk_cell hbx2 0).trans rfl)).mono ?_; rintro e w3 ⟨v3, rfl, hR3, hF3, hk3⟩))
  go_ret
  exact ⟨_, rfl, Kd.R_lower hR3 hw2, hF3.rb, (KB.of_below hb12 g).trans hk3⟩
end Go.Proofs.Ytkeekganabafbaa.X
end
section
namespace Go.Proofs.Ytkeekganabafbaa.X
open Go.RowKit Go.Proofs.YtkeekganabafbaaW.PrintWords Go.Proofs.YtkeekganabafbaaW.PrintLast Go.Proofs.YtkeekganabafbaaW.PrintMore Go.Proofs.Ytkeekganabafbaa.Pure
set_option linter.unusedVariables false
set_option linter.unusedSimpArgs false
def P0 : TL := ⟨none, 0, none, 0, none, 0, none, 0, none, 0, none, 0, none, 0⟩
theorem T0_cls : T0.cls.length = 256 := List.length_replicate
theorem set_tail (cs : List Value) (h : cs.length = 256) (V : List Value) (j : Nat) (u : Value) : (cs ++ V).toArray.setIfInBounds (256 + j) u = (cs ++ V.set j u).toArray := by
  rw [List.setIfInBounds_toArray, List.set_append_right _ _ (by omega), h, Nat.add_sub_cancel_left]
theorem tcells_eq (T : Tab) (p : TL) : tcells T p = ccells T ++ [.slice p.a1 T.next.length p.c1, .slice p.a2 T.rule.length p.c2, .slice p.a3 T.terms.length p.c3, .slice p.a4 T.action.length p.c4, .slice p.a5 T.goto.length p.c5, .slice p.a6 T.left.length p.c6, .slice p.a7 T.size.length p.c7] := by
  unfold tcells dcells
  rw [List.append_assoc]
  rfl
section
variable {T : Tab} {p : TL} (h : T.cls.length = 256)
include h
theorem set1 (xs : List (List Int)) (A : Option Addr) (c : Nat) : (tcells T p).toArray.setIfInBounds 256 (.slice A xs.length c) = (tcells { T with next := xs } { p with a1 := A, c1 := c }).toArray := by rw [tcells_eq, tcells_eq]; exact set_tail (ccells T) (by rw [ccells_length, h]) _ 0 _
theorem set2 (xs : List Int) (A : Option Addr) (c : Nat) : (tcells T p).toArray.setIfInBounds 257 (.slice A xs.length c) = (tcells { T with rule := xs } { p with a2 := A, c2 := c }).toArray := by rw [tcells_eq, tcells_eq]; exact set_tail (ccells T) (by rw [ccells_length, h]) _ 1 _
theorem set3 (xs : List Int) (A : Option Addr) (c : Nat) : (tcells T p).toArray.setIfInBounds 258 (.slice A xs.length c) = (tcells { T with terms := xs } { p with a3 := A, c3 := c }).toArray := by rw [tcells_eq, tcells_eq]; exact set_tail (ccells T) (by rw [ccells_length, h]) _ 2 _
theorem set4 (xs : List (List S38)) (A : Option Addr) (c : Nat) : (tcells T p).toArray.setIfInBounds 259 (.slice A xs.length c) = (tcells { T with action := xs } { p with a4 := A, c4 := c }).toArray := by rw [tcells_eq, tcells_eq]; exact set_tail (ccells T) (by rw [ccells_length, h]) _ 3 _
theorem set5 (xs : List (List Int)) (A : Option Addr) (c : Nat) : (tcells T p).toArray.setIfInBounds 260 (.slice A xs.length c) = (tcells { T with goto := xs } { p with a5 := A, c5 := c }).toArray := by rw [tcells_eq, tcells_eq]; exact set_tail (ccells T) (by rw [ccells_length, h]) _ 4 _
theorem set6 (xs : List Int) (A : Option Addr) (c : Nat) : (tcells T p).toArray.setIfInBounds 261 (.slice A xs.length c) = (tcells { T with left := xs } { p with a6 := A, c6 := c }).toArray := by rw [tcells_eq, tcells_eq]; exact set_tail (ccells T) (by rw [ccells_length, h]) _ 5 _
theorem set7 (xs : List Int) (A : Option Addr) (c : Nat) : (tcells T p).toArray.setIfInBounds 262 (.slice A xs.length c) = (tcells { T with size := xs } { p with a7 := A, c7 := c }).toArray := by rw [tcells_eq, tcells_eq]; exact set_tail (ccells T) (by rw [ccells_length, h]) _ 6 _
theorem set0 (i : Nat) (hi : i < 256) (x : Int) : (tcells T p).toArray.setIfInBounds i (.int .i64 x) = (tcells { T with cls := T.cls.set i x } p).toArray := by
  rw [tcells_eq, tcells_eq, List.setIfInBounds_toArray, List.set_append_left _ _ (by rw [ccells_length, h]; exact hi)]
  unfold ccells
  rw [← List.map_set]
end
theorem tcells_nb {W : World} {b : Nat} {T : Tab} {p : TL} (h : TBlk W b T p 29) : NB W b := ⟨_, _, _, h, fun i x hx => by
  rw [List.getElem?_toArray, tcells_eq] at hx
  have := List.mem_of_getElem? hx
  rcases List.mem_append.1 this with h1 | h1
  · obtain ⟨y, _, hy⟩ := List.mem_map.1 h1
    cases hy
  simp at h1⟩
theorem tcells_one (T : Tab) (p : TL) : (tcells T p).toArray.all (·.oneCell') = true := by
  refine all_oneCell_toArray (fun v hv => ?_)
  rw [tcells_eq] at hv
  rcases List.mem_append.1 hv with h1 | h1
  · obtain ⟨y, _, rfl⟩ := List.mem_map.1 h1
    rfl
  simp only [List.mem_cons, List.not_mem_nil, or_false] at h1
  rcases h1 with rfl | rfl | rfl | rfl | rfl | rfl | rfl <;> rfl
structure LT (W : World) (ok : Nat → Prop) (T : Tab) (p : TL) : Prop where
  cls : T.cls.length = 256
  f1 : Kd.F (Kd.slice 3 (Kd.int .i64)) W ok p.a1 T.next.length T.next
  l1 : T.next.length ≤ p.c1
  f2 : Kd.F (Kd.int .i64) W ok p.a2 T.rule.length T.rule
  l2 : T.rule.length ≤ p.c2
  f3 : Kd.F (Kd.int .i64) W ok p.a3 T.terms.length T.terms
  l3 : T.terms.length ≤ p.c3
  f4 : Kd.F (Kd.slice 38 k38) W ok p.a4 T.action.length T.action
  l4 : T.action.length ≤ p.c4
  f5 : Kd.F (Kd.slice 3 (Kd.int .i64)) W ok p.a5 T.goto.length T.goto
  l5 : T.goto.length ≤ p.c5
  f6 : Kd.F (Kd.int .i64) W ok p.a6 T.left.length T.left
  l6 : T.left.length ≤ p.c6
  f7 : Kd.F (Kd.int .i64) W ok p.a7 T.size.length T.size
  l7 : T.size.length ≤ p.c7
theorem LT.nil (W : World) (ok : Nat → Prop) {T : Tab} {p : TL} (h : T.cls.length = 256) (e : T = { T0 with cls := T.cls }) (ep : p = P0) : LT W ok T p := by
  subst ep
  rw [e]
  exact ⟨h, Kd.F_nil _ _ _, Nat.le_refl _, Kd.F_nil _ _ _, Nat.le_refl _, Kd.F_nil _ _ _, Nat.le_refl _, Kd.F_nil _ _ _, Nat.le_refl _, Kd.F_nil _ _ _, Nat.le_refl _, Kd.F_nil _ _ _, Nat.le_refl _, Kd.F_nil _ _ _, Nat.le_refl _⟩
theorem LT.tab {W : World} {ok : Nat → Prop} {T : Tab} {p : TL} (h : LT W ok T p) : TabR W T p :=
  { cls := h.cls, r1 := Kd.F_now h.f1, l1 := h.l1, r2 := Kd.F_now h.f2, l2 := h.l2, r3 := Kd.F_now h.f3, l3 := h.l3, r4 := Kd.F_now h.f4, l4 := h.l4, r5 := Kd.F_now h.f5, l5 := h.l5, r6 := Kd.F_now h.f6, l6 := h.l6, r7 := Kd.F_now h.f7, l7 := h.l7 }
theorem LT.step {W W' : World} {ok : Nat → Prop} {T : Tab} {p : TL} (h : LT W ok T p) (hm : ∀ k, ok k → k < W.heap.size → W'.heap[k]? = W.heap[k]?) : LT W' ok T p :=
  ⟨h.cls, Kd.F_step h.f1 hm, h.l1, Kd.F_step h.f2 hm, h.l2, Kd.F_step h.f3 hm, h.l3, Kd.F_step h.f4 hm, h.l4, Kd.F_step h.f5 hm, h.l5, Kd.F_step h.f6 hm, h.l6, Kd.F_step h.f7 hm, h.l7⟩
theorem LT.mono {W : World} {ok ok' : Nat → Prop} {T : Tab} {p : TL} (h : LT W ok T p) (hm : ∀ k, ok k → k < W.heap.size → ok' k) : LT W ok' T p :=
  have f : ∀ {α : Type} {d : Kd α} {A : Option Addr} {n : Nat} {xs : List α}, Kd.F d W ok A n xs → Kd.F d W ok' A n xs := fun h => Kd.F_mono (Kd.F_bound h) (fun k hk => hm k hk.1 hk.2)
  ⟨h.cls, f h.f1, h.l1, f h.f2, h.l2, f h.f3, h.l3, f h.f4, h.l4, f h.f5, h.l5, f h.f6, h.l6, f h.f7, h.l7⟩
theorem LT.keep {W W' : World} {N g : Nat} {T : Tab} {p : TL} (h : LT W (fun k => N ≤ k) T p) (hk : KeepBut W W' g none) (hg : g < N) : LT W' (fun k => N ≤ k) T p :=
  h.step (fun k hk' hlt => hk.2 k hlt (by omega) (by simp))
theorem LT.far {W : World} {N g : Nat} {T : Tab} {p : TL} (h : LT W (fun k => N ≤ k) T p) (hg : g < N) (j : Nat) (u : Value) : LT (W.setCell ⟨g, j, none⟩ u) (fun k => N ≤ k) T p := h.keep (KeepBut.set1 _ _ _ _) hg
theorem RF_ {α : Type} {d : Kd α} {e N : Nat} {W : World} {base : Nat} {ok : Nat → Prop} {A : Option Addr} {n c : Nat} {xs : List α} (h : d.R e W base ok (.slice A n c) xs) (hb : N ≤ base) : n = xs.length ∧ n ≤ c ∧ Kd.F d W (fun k => N ≤ k) A xs.length xs := by
  have h2 := Kd.R_reads' h
  have h1 := h2.1
  subst h1
  exact ⟨rfl, h2.2.1, Kd.F_mono (Kd.R_F (Kd.R_bound h)) (fun k hk => Nat.le_trans hb hk.2.1)⟩
theorem LT.s1 {W : World} {ok : Nat → Prop} {T : Tab} {p : TL} (h : LT W ok T p) {xs : List (List Int)} {A : Option Addr} {c : Nat} (hc : xs.length ≤ c) (hF : Kd.F (Kd.slice 3 (Kd.int .i64)) W ok A xs.length xs) : LT W ok { T with next := xs } { p with a1 := A, c1 := c } := { h with f1 := hF, l1 := hc }
theorem LT.s2 {W : World} {ok : Nat → Prop} {T : Tab} {p : TL} (h : LT W ok T p) {xs : List Int} {A : Option Addr} {c : Nat} (hc : xs.length ≤ c) (hF : Kd.F (Kd.int .i64) W ok A xs.length xs) : LT W ok { T with rule := xs } { p with a2 := A, c2 := c } := { h with f2 := hF, l2 := hc }
theorem LT.s3 {W : World} {ok : Nat → Prop} {T : Tab} {p : TL} (h : LT W ok T p) {xs : List Int} {A : Option Addr} {c : Nat} (hc : xs.length ≤ c) (hF : Kd.F (Kd.int .i64) W ok A xs.length xs) : LT W ok { T with terms := xs } { p with a3 := A, c3 := c } := { h with f3 := hF, l3 := hc }
theorem LT.s4 {W : World} {ok : Nat → Prop} {T : Tab} {p : TL} (h : LT W ok T p) {xs : List (List S38)} {A : Option Addr} {c : Nat} (hc : xs.length ≤ c) (hF : Kd.F (Kd.slice 38 k38) W ok A xs.length xs) : LT W ok { T with action := xs } { p with a4 := A, c4 := c } := { h with f4 := hF, l4 := hc }
theorem LT.s5 {W : World} {ok : Nat → Prop} {T : Tab} {p : TL} (h : LT W ok T p) {xs : List (List Int)} {A : Option Addr} {c : Nat} (hc : xs.length ≤ c) (hF : Kd.F (Kd.slice 3 (Kd.int .i64)) W ok A xs.length xs) : LT W ok { T with goto := xs } { p with a5 := A, c5 := c } := { h with f5 := hF, l5 := hc }
theorem LT.s6 {W : World} {ok : Nat → Prop} {T : Tab} {p : TL} (h : LT W ok T p) {xs : List Int} {A : Option Addr} {c : Nat} (hc : xs.length ≤ c) (hF : Kd.F (Kd.int .i64) W ok A xs.length xs) : LT W ok { T with left := xs } { p with a6 := A, c6 := c } := { h with f6 := hF, l6 := hc }
theorem LT.s7 {W : World} {ok : Nat → Prop} {T : Tab} {p : TL} (h : LT W ok T p) {xs : List Int} {A : Option Addr} {c : Nat} (hc : xs.length ≤ c) (hF : Kd.F (Kd.int .i64) W ok A xs.length xs) : LT W ok { T with size := xs } { p with a7 := A, c7 := c } := { h with f7 := hF, l7 := hc }
def ptr (g : Nat) : Value := .pointer (some ⟨g, 0, none⟩)
def PL (gs : Nat → Nat) (i : Nat) : List Value := .pointer none :: (List.range 8).map (fun j => if j < i then .pointer (some ⟨gs j, 0, none⟩) else .pointer none)
abbrev upd {α : Type} (f : Nat → α) (i : Nat) (x : α) : Nat → α := fun j => if j = i then x else f j
theorem PL_set (gs : Nat → Nat) (i g : Nat) (hi : i < 8) : (PL gs i).toArray.setIfInBounds (i + 1) (.pointer (some ⟨g, 0, none⟩)) = (PL (upd gs i g) (i + 1)).toArray := by
  rw [List.setIfInBounds_toArray]
  match i, hi with
  | 0, _ => rfl
  | 1, _ => rfl
  | 2, _ => rfl
  | 3, _ => rfl
  | 4, _ => rfl
  | 5, _ => rfl
  | 6, _ => rfl
  | 7, _ => rfl
theorem PL_nb {W : World} {b : Nat} {gs : Nat → Nat} {i : Nat} {t : TypeId} (h : W.heap[b]? = some (.cells (PL gs i).toArray t (0, 0))) : NB W b := ⟨_, _, _, h, fun j x hx => by
  rw [List.getElem?_toArray] at hx
  have := List.mem_of_getElem? hx
  rcases List.mem_cons.1 this with h1 | h1
  · cases h1
  obtain ⟨y, _, hy⟩ := List.mem_map.1 h1
  split at hy <;> cases hy⟩
structure RD8 (W : World) (N : Nat) (gs : Nat → Nat) (st : Nat → RS) (n : Nat) : Prop where
  rd : ∀ i, i < n → RBS W (gs i) (st i)
  lo : ∀ i, i < n → N ≤ gs i
  ne : ∀ i j, i < n → j < n → i ≠ j → gs i ≠ gs j
  bi : ∀ i, i < n → BI (st i).1 ∧ (st i).1.length < 225179981368000
theorem RD8.zero (W : World) (N : Nat) (gs : Nat → Nat) (st : Nat → RS) : RD8 W N gs st 0 := ⟨fun i h => by omega, fun i h => by omega, fun i j h => by omega, fun i h => by omega⟩
theorem RD8.below {W W' : World} {N n : Nat} {gs : Nat → Nat} {st : Nat → RS} (h : RD8 W N gs st n) (hb : Below W.heap.size W W') : RD8 W' N gs st n := ⟨fun i hi => (h.rd i hi).below hb, h.lo, h.ne, h.bi⟩
theorem RD8.keep {W W' : World} {N n b : Nat} {gs : Nat → Nat} {st : Nat → RS} (h : RD8 W N gs st n) (hk : KeepBut W W' b none) (hn : NB W b) (hne : ∀ i, i < n → gs i ≠ b) : RD8 W' N gs st n := ⟨fun i hi => (h.rd i hi).keep (hne i hi) hn hk, h.lo, h.ne, h.bi⟩
theorem RD8.call {W W' : World} {N n j : Nat} {gs : Nat → Nat} {st : Nat → RS} (h : RD8 W N gs st n) (hj : j < n) {s : RS} (hk : KeepBut W W' (gs j) none) (hs : RBS W' (gs j) s) (hB : BI s.1 ∧ s.1.length ≤ (st j).1.length) : RD8 W' N gs (upd st j s) n := by
  refine ⟨fun i hi => ?_, h.lo, h.ne, fun i hi => ?_⟩
  · by_cases e : i = j
    · subst e; show RBS W' (gs i) (if i = i then s else st i); rw [if_pos rfl]; exact hs
    show RBS W' (gs i) (if i = j then s else st i); rw [if_neg e]; exact (h.rd i hi).keep (h.ne i j hi hj e) (h.rd j hj).nb hk
  by_cases e : i = j
  · subst e; show BI (if i = i then s else st i).1 ∧ (if i = i then s else st i).1.length < 225179981368000; rw [if_pos rfl]; exact ⟨hB.1, Nat.lt_of_le_of_lt hB.2 (h.bi i hi).2⟩
  show BI (if i = j then s else st i).1 ∧ (if i = j then s else st i).1.length < 225179981368000; rw [if_neg e]; exact h.bi i hi
theorem RD8.add {W W' : World} {N n g : Nat} {gs : Nat → Nat} {st : Nat → RS} (h : RD8 W N gs st n) (hb : Below W.heap.size W W') (hN : N ≤ W.heap.size) (hg : W.heap.size ≤ g) {s : RS} (hs : RBS W' g s) (hB : BI s.1 ∧ s.1.length < 225179981368000) : RD8 W' N (upd gs n g) (upd st n s) (n + 1) := by
  have hlt : ∀ i, i < n → gs i < W.heap.size := fun i hi => (h.rd i hi).lt
  refine ⟨fun i hi => ?_, fun i hi => ?_, fun i j hi hj hij => ?_, fun i hi => ?_⟩
  · by_cases e : i = n
    · subst e; show RBS W' (if i = i then g else gs i) (if i = i then s else st i); rw [if_pos rfl, if_pos rfl]; exact hs
    show RBS W' (if i = n then g else gs i) (if i = n then s else st i); rw [if_neg e, if_neg e]; exact (h.rd i (by omega)).below hb
  · by_cases e : i = n
    · show N ≤ (if i = n then g else gs i); rw [if_pos e]; omega
    show N ≤ (if i = n then g else gs i); rw [if_neg e]; exact h.lo i (by omega)
  · show (if i = n then g else gs i) ≠ (if j = n then g else gs j)
    by_cases e : i = n
    · have hj' : j < n := by omega
      rw [if_pos e, if_neg (by omega)]; have := hlt j hj'; omega
    rw [if_neg e]
    by_cases e2 : j = n
    · rw [if_pos e2]; have := hlt i (by omega); omega
    rw [if_neg e2]; exact h.ne i j (by omega) (by omega) hij
  by_cases e : i = n
  · show BI (if i = n then s else st i).1 ∧ (if i = n then s else st i).1.length < 225179981368000; rw [if_pos e]; exact hB
  show BI (if i = n then s else st i).1 ∧ (if i = n then s else st i).1.length < 225179981368000; rw [if_neg e]; exact h.bi i (by omega)
end Go.Proofs.Ytkeekganabafbaa.X
end
section
namespace Go.Proofs.Ytkeekganabafbaa.X
open Go.RowKit Go.Proofs.YtkeekganabafbaaW.PrintWords Go.Proofs.YtkeekganabafbaaW.PrintLast Go.Proofs.YtkeekganabafbaaW.PrintMore Go.Proofs.Ytkeekganabafbaa.Pure
attribute [local go_sem] max2_int min2_int max_two min_two max_three min_three max_four min_four
set_option linter.unusedVariables false
set_option linter.unusedSimpArgs false
theorem RD8.add1 {W W' : World} {N n g : Nat} {gs : Nat → Nat} {st : Nat → RS} (h : RD8 W N gs st n) (hb : Below W.heap.size W W') (hN : N ≤ W.heap.size) (hg : W.heap.size ≤ g) (hs : RBS W' g (st n)) (hB : BI (st n).1 ∧ (st n).1.length < 225179981368000) : RD8 W' N (upd gs n g) st (n + 1) := by
  have h1 := h.add hb hN hg hs hB
  rwa [show upd st n (st n) = st from funext (fun j => by by_cases e : j = n; (subst e; exact if_pos rfl); exact if_neg e)] at h1
section
variable {P : Program} {ops : Array Oper} {rest : List Oper} {o : Oper} {a : Act} {Q : Exit → Act → World → Prop}
theorem slice_event {W : World} (hgd : o.guard = none) {N : Tmp} (_hd : o.dst = some N) {cs : Array Value} {t n : Nat}
    (hrun : (execOp a.eval o).run P W = .ok (.value (.slice (some ⟨W.heap.size, 0, none⟩) n n)) (W.alloc (.cells cs t (0, 0))))
    (h : ∀ g, g = W.heap.size → ∀ w1, w1.heap[g]? = some (.cells cs t (0, 0)) → Below W.heap.size W w1 → wpList P ops Q rest (a.put o.dst (.slice (some ⟨g, 0, none⟩) n n)) w1) : wpList P ops Q (o :: rest) a W :=
  Kd.event_run hgd hrun (h _ rfl _ (blk_new W _) (below_alloc (Below.refl _ _) _))
end
theorem zc29 : Try.zeroCells29 = (tcells T0 P0).toArray := by kernel_rfl
theorem info96 : (Try.prog.info? 96).map (fun i => (i.zero, i.size, i.bytes)) = some (some (.pointer none), 1, 8) := by kernel_rfl
theorem make9 (w : World) : (Instr.makeSlice 95 (.int .i64 9) (.int .i64 9)).run Try.prog w = .ok (.slice (some ⟨w.heap.size, 0, none⟩) 9 9) (w.alloc (.cells (PL (fun _ => 0) 0).toArray 96 (0, 0))) := by
  obtain ⟨i0, hi, hzz⟩ := Option.map_eq_some_iff.1 info96
  simp only [Prod.mk.injEq] at hzz
  have hr := run_makeSlice (P := Try.prog) (w := w) 95 96 i0 (.pointer none) Try.underlying95 hi hzz.1 .i64 .i64 9 9 (by decide) (by decide) (by rw [hzz.2.1]; decide) (by rw [hzz.2.2]; decide) (by decide)
  rw [hzz.2.1] at hr
  have hm : madeCells (Value.pointer none).cells (Int.toNat 9 * 1) = (PL (fun _ => 0) 0).toArray := by first | kernel_rfl | rfl | (simp [madeCells]; rfl)
  rw [hm] at hr
  exact hr
theorem upd_self {α : Type} (f : Nat → α) (i : Nat) : upd f i (f i) = f := funext (fun j => by by_cases e : j = i; (subst e; exact if_pos rfl); exact if_neg e)
theorem upd_upd {α : Type} (f : Nat → α) (i : Nat) (x y : α) : upd (upd f i x) i y = upd f i y := funext (fun j => by by_cases e : j = i; (subst e; show (if j = j then y else _) = (if j = j then y else _); rw [if_pos rfl, if_pos rfl]); (show (if j = i then y else (if j = i then x else f j)) = (if j = i then y else f j); rw [if_neg e, if_neg e, if_neg e]))
theorem sizeT {T : Tab} {p : TL} (h : T.cls.length = 256) : (Try.prog.info? 29).map (·.size) = some (tcells T p).toArray.size := by rw [List.size_toArray, tcells_length h]; exact size29
theorem tsz {T : Tab} {p : TL} (h : T.cls.length = 256) : (tcells T p).toArray.size = 263 := by rw [List.size_toArray, tcells_length h]
theorem zcs : Try.zeroCells29.size = 263 := by rw [zc29]; exact tsz T0_cls
theorem row_kb (w : World) (g : Nat) (cs : Array Value) : KB w (w.setRow g cs) g := ⟨⟨by rw [setRow_size]; exact Nat.le_refl _, fun i hi hg _ => setRow_other w g i cs hg⟩, rfl, rfl, rfl⟩
theorem row_set {w wr : World} {b0 : Nat} {T : Tab} {p : TL} (hTB : TBlk wr b0 T p 29) (hB : Below w.heap.size w wr) (h0 : w.heap.size ≤ b0) (cs : Array Value) : (wr.setRow b0 cs).heap[b0]? = some (.cells cs 29 (0, 0)) ∧ Below w.heap.size w (wr.setRow b0 cs) :=
  ⟨setRow_heap wr b0 _ cs 29 (0, 0) hTB, keep_below hB (row_kb _ _ _) h0⟩
theorem add_off2 (a : Addr) : (a.add 2).off = a.off + 2 := by
  unfold Addr.add
  split <;> simp_all
theorem readB_no {l : List S48} (h : ¬ (dI l 0 ≤ 512 ∧ dI l 1 ≤ 256 ∧ dI l 2 ≤ 64 ∧ dI l 3 ≤ 512 ∧ dI l 4 ≤ 48 ∧ dI l 5 ≤ 48 ∧ dI l 6 ≤ 128 ∧ (sec l 1).length = 256)) : readB l = false := by
  rcases hq : readB l with _ | _
  · rfl
  unfold readB dOk at hq
  simp only [Bool.and_eq_true, decide_eq_true_eq] at hq
  obtain ⟨⟨⟨⟨⟨⟨⟨⟨⟨c0, c1⟩, c2⟩, c3⟩, c4⟩, c5⟩, c6⟩, c7⟩, _⟩, _⟩ := hq
  exact absurd ⟨c0, c1, c2, c3, c4, c5, c6, c7⟩ h
abbrev TC (cls : List Int) : Tab := ⟨cls, [], [], [], [], [], [], []⟩
theorem take_set_id (y c : List Int) (i : Nat) (h1 : i < y.length) (hc : c.length = y.length) (h : y.take i = c.take i) : (y.set i (rd c (i : Int))).take (i + 1) = c.take (i + 1) := by
  have hjc : i < c.length := by omega
  rw [List.take_add_one, List.take_add_one, ← h, List.take_set_of_le (Nat.le_refl i), List.getElem?_set_self h1, List.getElem?_eq_getElem hjc]
  unfold rd
  rw [Int.toNat_natCast, List.getD_eq_getElem?_getD, List.getElem?_eq_getElem hjc]
  rfl
def s0 (l : List S48) : Nat → RS := fun j => (sec l j, false)
theorem sec_at {l : List S48} {i : Nat} {x : S48} (h : l[i]? = some x) : sec l i = x.f1 := by
  unfold sec
  rw [List.getD_eq_getElem?_getD, h]
  rfl
def DL (l : List S48) (i : Nat) : List Value := ((manyR numR i (sec l 0, false)).1 ++ List.replicate (7 - i) 0).map (Value.int .i64)
theorem DL_length (l : List S48) (i : Nat) (hi : i ≤ 7) : (DL l i).length = 7 := by
  unfold DL
  rw [List.length_map, List.length_append, manyR_length, List.length_replicate]
  omega
theorem DL_set (l : List S48) (i : Nat) (hi : i < 7) : (DL l i).toArray.setIfInBounds i (.int .i64 (numR (manyR numR i (sec l 0, false)).2).1) = (DL l (i + 1)).toArray := by
  unfold DL
  rw [List.setIfInBounds_toArray, ← List.map_set, List.set_append_right _ _ (by rw [manyR_length]; exact Nat.le_refl _), manyR_length, Nat.sub_self, manyR_snoc, show 7 - i = (7 - (i + 1)) + 1 by omega, List.replicate_succ, List.set_cons_zero, List.append_assoc]
  rfl
theorem DL_nb {W : World} {b i : Nat} {l : List S48} {t : TypeId} (h : W.heap[b]? = some (.cells (DL l i).toArray t (0, 0))) : NB W b := ⟨_, _, _, h, fun j x hx => by
  rw [List.getElem?_toArray] at hx
  have := List.mem_of_getElem? hx
  obtain ⟨y, _, hy⟩ := List.mem_map.1 this
  cases hy⟩
theorem DL7 (l : List S48) : DL l 7 = [.int .i64 (dI l 0), .int .i64 (dI l 1), .int .i64 (dI l 2), .int .i64 (dI l 3), .int .i64 (dI l 4), .int .i64 (dI l 5), .int .i64 (dI l 6)] := by
  unfold DL
  rw [show (manyR numR 7 (sec l 0, false)).1 = (rD l).1 from rfl, list7 (rD l).1 (manyR_length _ _ _)]
  rfl
theorem manyR_all {α : Type} (next : RS → α × RS) (ok : α → Prop) (h : ∀ s, ok (next s).1) : ∀ (n : Nat) (s : RS), ∀ a ∈ (manyR next n s).1, ok a
  | 0, s, a, ha => by cases ha
  | n + 1, s, a, ha => by
    rcases List.mem_cons.1 (show a ∈ (next s).1 :: (manyR next n (next s).2).1 from ha) with rfl | ha
    · exact h s
    exact manyR_all next ok h n _ a ha
theorem dI_nn (l : List S48) (i : Nat) : dI l i = ((dn l i : Nat) : Int) := by
  have h : 0 ≤ dI l i := by
    unfold dI
    rw [List.getD_eq_getElem?_getD]
    rcases hq : (rD l).1[i]? with _ | a
    · exact Int.le_refl _
    exact manyR_all numR (fun a => 0 ≤ a) (fun s => (numR_range s).1) 7 _ a (List.mem_of_getElem? hq)
  unfold dn
  omega
theorem list_less (n : Nat) (hn : n ≤ 200000) (g : Nat) (s : RS) (w : World) (hr : RBS w g s) (hB : BI s.1) (hl : s.1.length < 225179981368000) :
    Calls Try.prog 62 #[.int .i64 (n : Int), .func (.func 61) #[.pointer (some ⟨g, 0, none⟩)] #[]] w fun e w' => ∃ v, e = .returned v ∧ Kd.R (Kd.int .i64) 3 w' w.heap.size (fun _ => True) v (manyR lessR n s).1 ∧ RBS w' g (manyR lessR n s).2 ∧ KB w w' g :=
  (many_less n hn g s _ w (RF.of hr) hB hl).mono (fun e w' ⟨v, h1, h2, h3, h4⟩ => ⟨v, h1, h2, h3.rb, h4⟩)
theorem list_num (n : Nat) (hn : n ≤ 200000) (g : Nat) (s : RS) (w : World) (hr : RBS w g s) (hB : BI s.1) (hl : s.1.length < 225179981368000) :
    Calls Try.prog 62 #[.int .i64 (n : Int), .func (.func 59) #[.pointer (some ⟨g, 0, none⟩)] #[]] w fun e w' => ∃ v, e = .returned v ∧ Kd.R (Kd.int .i64) 3 w' w.heap.size (fun _ => True) v (manyR numR n s).1 ∧ RBS w' g (manyR numR n s).2 ∧ KB w w' g :=
  (many_num n hn g s _ w (RF.of hr) hB hl).mono (fun e w' ⟨v, h1, h2, h3, h4⟩ => ⟨v, h1, h2, h3.rb, h4⟩)
def RW (w : World) (g : Nat) (s : RS) : Prop := ∃ A c, w.heap[g]? = some (.cells #[.slice A s.1.length c, .bool s.2] 98 (0, 0))
theorem RW.of {w : World} {g : Nat} {s : RS} (h : RBS w g s) : RW w g s := by
  obtain ⟨A, c, h1, _⟩ := h
  exact ⟨A, c, h1⟩
theorem RW.move {w w' : World} {g : Nat} {s : RS} (h : RW w g s) (e : w'.heap[g]? = w.heap[g]?) : RW w' g s := by
  obtain ⟨A, c, h1⟩ := h
  exact ⟨A, c, e.trans h1⟩
structure LS6 (w W : World) (ga b0 N NN NL : Nat) (gs : Nat → Nat) (st : Nat → RS) (T5 : Tab) (p5 : TL) (T : Tab) (p : TL) : Prop where
  rw_ : ∀ j, j < 7 → RW W (gs j) (st j)
  pa : W.heap[ga]? = some (.cells (PL gs 8).toArray 96 (0, 0))
  tb : TBlk W b0 T p 29
  lt : LT W (fun k => NN ≤ k ∧ k < NL) T5 p5
  be : Below w.heap.size w W
  nl : NL ≤ W.heap.size
structure LOW (w : World) (ga b0 N NN NL : Nat) (gs : Nat → Nat) : Prop where
  g : ∀ j, j < 8 → gs j < NN ∧ w.heap.size ≤ gs j ∧ gs j ≠ b0 ∧ gs j ≠ ga
  n : ∀ j, j < 7 → gs j ≠ gs 7
  b : b0 < NN
  a : ga < NN
  ab : ga ≠ b0
  l : NN ≤ NL
  wb : w.heap.size ≤ b0
theorem LS6.move {w W W' : World} {ga b0 N NN NL : Nat} {gs : Nat → Nat} {st : Nat → RS} {T5 T : Tab} {p5 p : TL} (h : LS6 w W ga b0 N NN NL gs st T5 p5 T p) (L : LOW w ga b0 N NN NL gs) (hm : ∀ k, k < NL → k ≠ gs 7 → W'.heap[k]? = W.heap[k]?) (hb : Below w.heap.size w W') (hn : NL ≤ W'.heap.size) : LS6 w W' ga b0 N NN NL gs st T5 p5 T p :=
  ⟨fun j hj => (h.rw_ j hj).move (hm _ (by have := (L.g j (by omega)).1; have := L.l; omega) (L.n j hj)), (hm _ (by have := L.a; have := L.l; omega) (by have := (L.g 7 (by decide)).2.2.2; omega)).trans h.pa, (hm _ (by have := L.b; have := L.l; omega) (by have := (L.g 7 (by decide)).2.2.1; omega)).trans h.tb,
    h.lt.step (fun k hk _ => hm k hk.2 (by have := (L.g 7 (by decide)).1; omega)), hb, hn⟩
theorem LS6.kb {w W W' : World} {ga b0 N NN NL : Nat} {gs : Nat → Nat} {st : Nat → RS} {T5 T : Tab} {p5 p : TL} (h : LS6 w W ga b0 N NN NL gs st T5 p5 T p) (L : LOW w ga b0 N NN NL gs) (hk : KB W W' (gs 7)) : LS6 w W' ga b0 N NN NL gs st T5 p5 T p :=
  h.move L (fun k h1 h2 => hk.1.2 k (Nat.lt_of_lt_of_le h1 h.nl) h2 (by simp)) (keep_below h.be hk (L.g 7 (by decide)).2.1) (Nat.le_trans h.nl hk.1.1)
theorem LS6.grown {w W W' : World} {ga b0 N NN NL n : Nat} {gs : Nat → Nat} {st : Nat → RS} {T5 T : Tab} {p5 p : TL} (h : LS6 w W ga b0 N NN NL gs st T5 p5 T p) (L : LOW w ga b0 N NN NL gs) {row : Option Nat} (hg : W.grownBy W' row) (hB : Below n W W') (hr : ∀ k, row = some k → NL ≤ k) : LS6 w W' ga b0 N NN NL gs st T5 p5 T p := by
  have hm : ∀ k, k < NL → W'.heap[k]? = W.heap[k]? := fun k hk => hg.block k (Nat.lt_of_lt_of_le hk h.nl) (fun he => by have := hr k he.symm; omega)
  have hs : w.heap.size ≤ NL := Nat.le_trans L.wb (by have := L.b; have := L.l; omega)
  exact h.move L (fun k h1 _ => hm k h1) ⟨hB.os.trans h.be.os, hB.tape.trans h.be.tape, hB.output.trans h.be.output, Nat.le_trans h.be.size hg.size, fun k hk => (hm k (by omega)).trans (h.be.block k hk)⟩ (Nat.le_trans h.nl hg.size)
theorem LS6.set {w W : World} {ga b0 N NN NL : Nat} {gs : Nat → Nat} {st : Nat → RS} {T5 T T' : Tab} {p5 p p' : TL} (h : LS6 w W ga b0 N NN NL gs st T5 p5 T p) (L : LOW w ga b0 N NN NL gs) (j : Nat) (u : Value) (e : (tcells T p).toArray.setIfInBounds j u = (tcells T' p').toArray) : LS6 w (W.setCell ⟨b0, j, none⟩ u) ga b0 N NN NL gs st T5 p5 T' p' := by
  have hk := KB.set W b0 j u
  have hm : ∀ k, k ≠ b0 → (W.setCell ⟨b0, j, none⟩ u).heap[k]? = W.heap[k]? := fun k hk => Below.heap_setCell W ⟨b0, j, none⟩ u k hk
  exact ⟨fun i hi => (h.rw_ i hi).move (hm _ (L.g i (by omega)).2.2.1), (hm _ L.ab).trans h.pa, blk_put (cs' := (tcells T' p').toArray) h.tb j u e, h.lt.step (fun k hk _ => hm k (by have := L.b; omega)), keep_below h.be hk L.wb, Nat.le_trans h.nl hk.1.1⟩
theorem RBo.grown {W W' : World} {b g : Nat} {l : List Int} {bad : Bool} (h : RBo W b g l bad) {row : Option Nat} (hg : W.grownBy W' row) (hr : ∀ k, row = some k → k ≠ g ∧ k < b) : RBo W' b g l bad :=
  h.step (fun k hk hlt => hg.block k hlt (fun he => by have := hr k he.symm; omega))
theorem pair_snoc (n : Nat) (s : RS) : (manyR pairR (n + 1) s).1.map (·.1) = (manyR pairR n s).1.map (·.1) ++ [(numR (manyR pairR n s).2).1] ∧ (manyR pairR (n + 1) s).1.map (·.2) = (manyR pairR n s).1.map (·.2) ++ [(numR (numR (manyR pairR n s).2).2).1] ∧ (manyR pairR (n + 1) s).2 = (numR (numR (manyR pairR n s).2).2).2 := by
  rw [manyR_snoc]
  dsimp only
  rw [List.map_append, List.map_append]
  exact ⟨rfl, rfl, rfl⟩
theorem fine_pair : Fine pairR := fun s h => by
  have h1 := numR_BI s h
  have h2 := numR_BI (numR s).2 h1.1
  exact ⟨h2.1, Nat.le_trans h2.2 h1.2⟩
set_option maxHeartbeats 4000000 in
theorem done_calls (g : Nat) (s : RS) (w : World) (hr : RW w g s) : Calls Try.prog 65 #[.pointer (some ⟨g, 0, none⟩)] w fun e w' => e = .returned (.bool (doneB s)) ∧ w' = w := by
  obtain ⟨A, c, hb⟩ := hr
  obtain ⟨sl, sb⟩ := s
  have x0 := (blk_cell hb 0).trans (show _ = some (Value.slice A sl.length c) from rfl)
  have x1 := (blk_cell hb 1).trans (show _ = some (Value.bool sb) from rfl)
  cases sb
  · by_cases h0 : sl.length = 0
    · have hd : doneB (sl, false) = true := by unfold doneB; rw [decide_eq_true (show (sl, false).1.length = 0 from h0)]; rfl
      rw [hd]
      try dsimp only at x0
      rw [h0] at x0
      clear hb hd h0
      go_enter Try.func65, Try.ntmps65
      go_wp2
      go_ret
      exact ⟨rfl, rfl⟩
    have hd : doneB (sl, false) = false := by unfold doneB; rw [decide_eq_false (show ¬ (sl, false).1.length = 0 from h0)]; rfl
    rw [hd]
    try dsimp only at x0
    have e1 : ((sl.length : Int) = 0) = False := eq_false (by omega)
    have e2 : (sl.length = 0) = False := eq_false h0
    have e3 : decide ((sl.length : Int) = 0) = false := decide_eq_false (by omega)
    have e4 : ((sl.length : Int) == 0) = false := beq_eq_false_iff_ne.mpr (by omega)
    clear hb hd h0
    go_enter Try.func65, Try.ntmps65
    go_wp2
    go_ret
    exact ⟨rfl, rfl⟩
  have hd : doneB (sl, true) = false := rfl
  rw [hd]
  clear hb hd
  go_enter Try.func65, Try.ntmps65
  go_wp2
  go_ret
  exact ⟨rfl, rfl⟩
theorem PL_at (gs : Nat → Nat) (i : Nat) (hi : i < 8) : (PL gs 8)[1 + i]? = some (.pointer (some ⟨gs i, 0, none⟩)) := by
  match i, hi with
  | 0, _ => rfl
  | 1, _ => rfl
  | 2, _ => rfl
  | 3, _ => rfl
  | 4, _ => rfl
  | 5, _ => rfl
  | 6, _ => rfl
  | 7, _ => rfl
def st8 (l : List S48) : Nat → RS := upd (upd (upd (upd (upd (upd (upd (upd (s0 l) 0 (rD l).2) 1 ([], false)) 2 (r3 l).2) 3 (r4 l).2) 4 (r5 l).2) 5 (r6 l).2) 6 (r7 l).2) 7 (r8 l).2
theorem doneA_iff (l : List S48) : doneA l = true ↔ ∀ j, j < 8 → doneB (st8 l j) = true := by
  unfold doneA
  simp only [Bool.and_eq_true]
  constructor
  · rintro ⟨⟨⟨⟨⟨⟨a0, a2⟩, a3⟩, a4⟩, a5⟩, a6⟩, a7⟩ j hj
    match j, hj with
    | 0, _ => simpa [st8, upd] using a0
    | 1, _ => simp [st8, upd, doneB]
    | 2, _ => simpa [st8, upd] using a2
    | 3, _ => simpa [st8, upd] using a3
    | 4, _ => simpa [st8, upd] using a4
    | 5, _ => simpa [st8, upd] using a5
    | 6, _ => simpa [st8, upd] using a6
    | 7, _ => simpa [st8, upd] using a7
  intro h
  have a0 := h 0 (by decide)
  have a2 := h 2 (by decide)
  have a3 := h 3 (by decide)
  have a4 := h 4 (by decide)
  have a5 := h 5 (by decide)
  have a6 := h 6 (by decide)
  have a7 := h 7 (by decide)
  simp [st8, upd] at a0 a2 a3 a4 a5 a6 a7
  exact ⟨⟨⟨⟨⟨⟨a0, a2⟩, a3⟩, a4⟩, a5⟩, a6⟩, a7⟩
theorem readB_not {l : List S48} (j : Nat) (hj : j < 8) (h : doneB (st8 l j) = false) : readB l = false := by
  rcases hq : readB l with _ | _
  · rfl
  unfold readB at hq
  simp only [Bool.and_eq_true] at hq
  have := (doneA_iff l).1 hq.1.2 j hj
  rw [h] at this
  cases this
theorem exec_load29 {a : Act} {o : Oper} {x : Operand} {W : World} {b0 : Nat} {T : Tab} {p : TL} (ho : o.op = .load 29 x) (hx : a.eval x = .pointer (some ⟨b0, 0, none⟩)) (hT : TBlk W b0 T p 29) (hc : T.cls.length = 256) : (execOp a.eval o).run Try.prog W = .ok (.value (.agg (tcells T p).toArray)) W := by
  unfold execOp
  simp only [ho, hx, Sem.run_bind, run_loadAt_mid W b0 0 29 (tcells T p) _ (TBlk.rangeT hT) Try.underlying29 rfl (by rw [tcells_length hc]; exact size29)]
  rfl
theorem exec_store29 {a : Act} {o : Oper} {x y : Operand} {W : World} {b0 : Nat} {T T' : Tab} {p p' : TL} (ho : o.op = .store 29 x y) (hx : a.eval x = .pointer (some ⟨b0, 0, none⟩)) (hy : a.eval y = .agg (tcells T' p').toArray) (hT : TBlk W b0 T p 29) (hc : T.cls.length = 256) (hc' : T'.cls.length = 256) : (execOp a.eval o).run Try.prog W = .ok .skip (W.setRow b0 (tcells T' p').toArray) := by
  unfold execOp
  simp only [ho, hx, hy, Instr.storeAt, Instr.sureAddr, Sem.run_bind, Sem.run_pure, Result.andThen_ok, run_storeVar_row W b0 29 29 (tcells T p).toArray (tcells T' p').toArray hT (sizeT hc') ((tsz hc).trans (tsz hc').symm) (tcells_one _ _)]
theorem may_n (l : List S48) (p : TL) (w : World) (h : TabR w (tabI l) p) (h0 : dn l 0 ≤ 512) (h2 : dn l 2 ≤ 64) : Calls Try.prog 30 #[.agg (tcells (tabI l) p).toArray] w fun e w' => e = .returned (.bool (mayB (tabI l))) ∧ Below w.heap.size w w' := by
  have e1 : (tabI l).next.length = dn l 0 := manyR_length _ _ _
  have e2 : (tabI l).rule.length = dn l 0 := manyR_length _ _ _
  have e3 : (tabI l).terms.length = dn l 2 := manyR_length _ _ _
  exact may_calls (tabI l) p w h (by rw [e1]; omega) (by rw [e2]; omega) (by rw [e3]; omega)
theorem dOk_of {l : List S48} (h : dI l 0 ≤ 512 ∧ dI l 1 ≤ 256 ∧ dI l 2 ≤ 64 ∧ dI l 3 ≤ 512 ∧ dI l 4 ≤ 48 ∧ dI l 5 ≤ 48 ∧ dI l 6 ≤ 128) (h7 : (sec l 1).length = 256) : dOk l = true := by
  unfold dOk
  simp only [Bool.and_eq_true, decide_eq_true_eq]
  exact ⟨⟨⟨⟨⟨⟨⟨h.1, h.2.1⟩, h.2.2.1⟩, h.2.2.2.1⟩, h.2.2.2.2.1⟩, h.2.2.2.2.2.1⟩, h.2.2.2.2.2.2⟩, h7⟩
end Go.Proofs.Ytkeekganabafbaa.X
end
