import Derived.SizedLaws
import Derived.ChangeSlices
import Derived.ChangeSame
import Derived.ChangeShapes
import Derived.WideShapes
import Derived.OpenShut
import Derived.Deep.Matrix
import Derived.Test.YtkeekganabafbaaXJTa12
import Derived.Test.YtkeekganabafbaaXJTa0
/- Texts of this claim, joined. -/
section
namespace Go.Proofs.Ytkeekganabafbaa.X
open Go.RowKit Go.Proofs.YtkeekganabafbaaW.PrintWords Go.Proofs.YtkeekganabafbaaW.PrintLast Go.Proofs.YtkeekganabafbaaW.PrintMore Go.Proofs.Ytkeekganabafbaa.Pure
attribute [local go_sem] max2_int min2_int max_two min_two max_three min_three max_four min_four
set_option linter.unusedVariables false
set_option linter.unusedSimpArgs false
theorem T0_small : TSmall T0 := ⟨T0_cls, fun k hk => by rw [List.eq_of_mem_replicate hk]; decide, by decide, (fun r hr => by cases hr), by decide, by decide, by decide, (fun r hr => by cases hr), by decide, (fun r hr => by cases hr), by decide, by decide⟩
theorem may_small {T : Tab} (h : mayB T = true) (hc : T.cls.length = 256) : TSmall T := by
  have M := may_parts h
  have D := dfa_parts M.dfa
  have n2 := D.n2
  have u := D.u
  have t := M.t
  have s2 := M.s2
  have g := M.g
  have p2 := M.p2
  have z := M.z
  refine ⟨hc, fun k hk => ?_, by omega, fun r hr => ?_, by omega, by omega, by omega, fun r hr => ?_, by omega, fun r hr => ?_, by omega, by omega⟩
  · have h1 := D.cls k hk
    have h2 := next_w D
    have : (-9223372036854775808 : Int) ≤ k ∧ k < 9223372036854775808 := by omega
    show (decide (IntKind.i64.min ≤ k) && decide (k ≤ IntKind.i64.max)) = true
    rw [Bool.and_eq_true, decide_eq_true_eq, decide_eq_true_eq]
    exact ⟨by show (-9223372036854775808 : Int) ≤ k; omega, by show k ≤ (9223372036854775807 : Int); omega⟩
  · have := (D.row r hr).2.1; omega
  · have h1 := may_row M r hr
    have := M.t2
    omega
  have h1 := may_goto M r hr
  have := M.n2
  omega
def okA (l : List Int) : Bool := l.all (fun x => decide (0 ≤ x) && decide (x < 256))
theorem okA_BI {l : List Int} (h : okA l = true) : BI l := BI_of l h
def incunablelaw22_TablesAgain.f (k : Nat) (l0 : List Int) : Option Bool := if okA l0 = true ∧ l0.length ≤ 9223372036854775800 then some true else none
set_option maxHeartbeats 16000000 in
set_option maxRecDepth 100000 in
theorem incunablelaw22_TablesAgain.calls (k : Nat) (A0 : Option Addr) (c0 : Nat) (l0 : List Int) (r : Bool) (w : World) (hr0 : Kd.C (Kd.int .u8) w A0 l0.length l0) (hc0 : l0.length ≤ c0) (h : incunablelaw22_TablesAgain.f k l0 = some r) :
    Calls Try.prog 7 #[.slice A0 l0.length c0] w fun e w' => e = .returned (.bool r) ∧ Below w.heap.size w w' := by
  unfold incunablelaw22_TablesAgain.f at h
  by_cases hq : okA l0 = true ∧ l0.length ≤ 9223372036854775800
  · rw [if_pos hq] at h
    injection h with h
    subst h
    have HBI := Aside0.mk (okA_BI hq.1)
    have HLEN := Aside0.mk hq.2
    have HR0 := Aside0.mk hr0
    have HC0 := Aside0.mk hc0
    obtain ⟨T, e, hpe⟩ : ∃ T e, parseI l0 = (T, e) := ⟨_, _, rfl⟩
    have HPA := Aside0.mk hpe
    clear hq hr0 hc0 hpe
    go_enter Try.func7, Try.ntmps7
    go_upto_region 4 with (first | (go_at_call 9; refine (works_calls _).mono ?_; rintro e' w1 ⟨rfl, hb1⟩) | (go_at_call 17; refine (Parse_calls l0 A0 l0.length c0 _ rfl HLEN.out HBI.out (Kd.C_below HR0.out hb1) HC0.out).mono ?_; rintro e' w2 ⟨p, rfl, hcy, hty, hb2⟩; rw [HPA.out] at hcy hty; simp only [HPA.out]) | ((with_reducible refine gate_dst (N := 3) rfl ?_); refine box_event ?hg (N := 3) ?hd (cs := (tcells T0 P0).toArray) (t := 29) ?hr ?_; (case hd => rfl); (case hg => rfl); (case hr => rw [← zc29]; simp [execOp, go_sem]); intro b3 hg w3 hTB3 hbe3; have hz3 : w2.heap.size ≤ b3 := Nat.le_of_eq hg.symm; clear hg) | (refine wpList_store_row rfl 29 (.tmp 3) (.tmp 12) rfl b3 (tcells T p).toArray rfl rfl 29 (tcells T0 P0).toArray hTB3 (sizeT hcy) ((tsz T0_cls).trans (tsz hcy).symm) (tcells_one _ _) ?_))
    have hTB4 : TBlk (w3.setRow b3 (tcells T p).toArray) b3 T p 29 := setRow_heap w3 b3 _ _ 29 (0, 0) hTB3
    have hb24 : Below w2.heap.size w2 (w3.setRow b3 (tcells T p).toArray) := keep_below hbe3 (row_kb w3 b3 _) hz3
    generalize w3.setRow b3 (tcells T p).toArray = w4 at hTB4 hb24 ⊢
    have HTB4 := Aside0.mk hTB4
    have HTY4 := Aside0.mk (hty.tab.below hb24)
    have HB4 := Aside0.mk (below_step (below_step hb1 hb2) hb24)
    have HCY := Aside0.mk hcy
    clear hTB3 hbe3 hz3 hTB4 hb24 hty hb1 hb2 hcy
    by_cases he : e = 0
    · subst he
      have hpp := bytes_parse l0 HBI.out (by rw [HPA.out])
      rw [HPA.out] at hpp
      have HBY := Aside0.mk hpp.1
      have HMB := Aside0.mk (show (if mayB T = true then (0 : Int) else 220) = 0 from if_pos hpp.2.1)
      have HSM := Aside0.mk (may_small hpp.2.1 hpp.2.2)
      clear hpp
      go_wp2_with (first | ((with_reducible refine gate_dst (N := 20) rfl ?_); refine wpList_load_mid rfl 29 (.tmp 3) rfl b3 0 rfl (tcells T p) _ (TBlk.rangeT HTB4.out) Try.underlying29 rfl (by rw [tcells_length HCY.out]; exact size29) ?_) | (go_at_call 10; refine (Bytes_calls T p _ HTY4.out HSM.out.n HSM.out.u HSM.out.t).mono ?_; rintro e' w5 ⟨v5, rfl, hR5, hb5⟩; rw [HBY.out] at hR5; simp only [HBY.out]; obtain ⟨A5, c5, rfl⟩ := Kd.R_slice hR5; have HC5 := Aside0.mk (Kd.R_reads' hR5); have hTB5 : TBlk w5 b3 T p 29 := blk_below HTB4.out hb5) | ((with_reducible refine gate_dst (N := 24) rfl ?_); refine wpList_load_mid rfl 29 (.tmp 3) rfl b3 0 rfl (tcells T p) _ (TBlk.rangeT hTB5) Try.underlying29 rfl (by rw [tcells_length HCY.out]; exact size29) ?_) | (go_at_call 13; refine (Check_calls T p _ (HTY4.out.below hb5) HSM.out.n HSM.out.u HSM.out.t).mono ?_; rintro e' w6 ⟨he6, hb6⟩; rw [HMB.out] at he6; subst he6) | (go_at_call 12; have hdd : decide (l0 = l0) = true := decide_eq_true rfl; refine (eqb_n l0 l0 l0.length l0.length A0 A5 c0 c5 _ rfl rfl HLEN.out (Kd.C_below HR0.out (below_step (below_step HB4.out hb5) hb6)) HC0.out (Kd.C_below HC5.out.2.2 hb6) HC5.out.2.1).mono ?_; rintro e' w7 ⟨he7, hb7⟩; rw [hdd] at he7; subst he7; clear hdd))
      go_ret
      exact ⟨rfl, below_step (below_step (below_step HB4.out hb5) hb6) hb7⟩
    have hT0 : T = T0 := by
      have h1 := HPA.out
      unfold parseI at h1
      split at h1
      · split at h1
        · exact absurd (Prod.mk.inj h1).2.symm he
        exact (Prod.mk.inj h1).1.symm
      exact (Prod.mk.inj h1).1.symm
    subst hT0
    have f1 : (e = 0) = False := eq_false he
    have f2 : decide (e = 0) = false := decide_eq_false he
    have f3 : (e == 0) = false := beq_eq_false_iff_ne.mpr he
    go_wp2_with (first | ((with_reducible refine gate_dst (N := 16) rfl ?_); refine wpList_load_mid rfl 29 (.tmp 3) rfl b3 0 rfl (tcells T0 p) _ (TBlk.rangeT HTB4.out) Try.underlying29 rfl (by rw [tcells_length HCY.out]; exact size29) ?_) | (go_at_call 11; rw [zc29]; refine (Same_calls T0 T0 p P0 _ HTY4.out (T0_tab _ (fun _ => True)).tab T0_small T0_small).mono ?_; rintro e' w5 ⟨r5, rfl, hr5, hb5⟩; obtain rfl : r5 = true := hr5.2 rfl; clear hr5))
    go_ret
    exact ⟨rfl, below_step HB4.out hb5⟩
  rw [if_neg hq] at h
  cases h
end Go.Proofs.Ytkeekganabafbaa.X
end
section
namespace Go.Proofs.YtkeekganabafbaaW.PrintWords
open Go.ChangeShapes Go.WideShapes
theorem sized_ints {H : Type} {enc : TypeId × Value → H} {P : Program} {W : World} {base : Nat} {spare : Nat → Bool} {held : Bool} {t e : TypeId} {k : IntKind} {a : Option Addr} {len cap : Nat} {d : DataW H} {ps : List MemPlace} {ts : List TypeId} {ds : List (DataW H)} {j : Nat}
    (hsz : (DataW.weightsEach P ts ds).all (· ≤ reachBytes) = true) (ht : ts[j]? = some t) (hd : ds[j]? = some d) (hu : P.underlying t = some (.slice e)) (he : P.underlying e = some (.int k)) (hc : P.cellsOf e = 1) {B : Nat} (hB : P.bytesOf e = B)
    (h : DataW.Trod enc P W base spare held t (.slice a len cap) d ps) : len * B ≤ 140737488351232 := by
  obtain ⟨fuel, hf⟩ := h
  rcases open_ints hu he hc hf with ⟨hcs, _⟩ | ⟨x, l, c, zs, hcs, _, hl, _, hz, hx, _, _⟩
  · simp [Value.cells] at hcs
    obtain ⟨rfl, rfl, rfl⟩ := hcs
    simp
  · simp [Value.cells] at hcs
    obtain ⟨rfl, rfl, rfl⟩ := hcs
    obtain ⟨hx, _⟩ := Prod.mk.inj hx
    subst hx
    have z := sized_slice hsz ht hd hu
    rw [hB] at z
    have hl2 : len ≤ zs.length := by
      rw [hz]
      split
      · exact hl
      · exact Nat.le_refl _
    have h1 : (lits (H := H) k (zs.take len)).length + (lits (H := H) k (zs.drop len)).length = zs.length := by
      simp [lits]
      omega
    rw [h1] at z
    exact Nat.le_trans (Nat.mul_le_mul_right _ hl2) z
end Go.Proofs.YtkeekganabafbaaW.PrintWords
end
section
namespace Go.Proofs.YtkeekganabafbaaW.Rows
open Go.ChangeShapes Go.WideShapes Go.Proofs.YtkeekganabafbaaW.PrintWords
set_option linter.unusedVariables false
variable {H : Type} {enc : TypeId × Value → H} {P : Program} {w : World} {base : Nat} {held : Bool}
end Go.Proofs.YtkeekganabafbaaW.Rows
end
