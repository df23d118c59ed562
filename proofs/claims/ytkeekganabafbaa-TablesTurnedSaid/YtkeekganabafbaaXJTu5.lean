import Derived.Test.YtkeekganabafbaaXJTu4
import Derived.Test.YtkeekganabafbaaXJTu2
import Derived.Test.YtkeekganabafbaaXJTu1
/- Texts of this claim, joined. -/
section
namespace Go.Proofs.Ytkeekganabafbaa.X
open Go.RowKit Go.Proofs.YtkeekganabafbaaW.PrintWords Go.Proofs.YtkeekganabafbaaW.PrintLast Go.Proofs.YtkeekganabafbaaW.PrintMore Go.Proofs.Ytkeekganabafbaa.Pure
attribute [local go_sem] max2_int min2_int max_two min_two max_three min_three max_four min_four
set_option linter.unusedVariables false
set_option linter.unusedSimpArgs false
theorem nums_n (m : Int) (hm : 0 ≤ m ∧ m ≤ 1) (l : List Int) (h : fits m l) (A : Option Addr) (n c : Nat) (w : World) (hn : l.length = n) (hl : n ≤ 1000000) (hC : Kd.C (Kd.int .i64) w A n l) (hc : n ≤ c) :
    Calls Try.prog 23 #[.int .i64 m, .slice A n c] w fun e w' => ∃ v, e = .returned v ∧ (Kd.int .u8).R 5 w' w.heap.size (fun _ => True) v (numsL m l) ∧ Below w.heap.size w w' := by
  subst hn
  obtain ⟨k, hk⟩ := (nums_ev m hm l h hl).rounds
  exact tables_nums.calls k m A c l _ w hC hc hk
theorem take_set_next (f : Int → Int) (y c : List Int) (i : Int) (h0 : 0 ≤ i) (h1 : i < (y.length : Int)) (hc : c.length = y.length) (h : y.take i.toNat = (c.take i.toNat).map f) : (y.set i.toNat (f (rd c i))).take (i + 1).toNat = (c.take (i + 1).toNat).map f := by
  obtain ⟨j, rfl⟩ := Int.eq_ofNat_of_zero_le h0
  have hj : j < y.length := by omega
  have hjc : j < c.length := by omega
  rw [show ((j : Int) + 1).toNat = j + 1 by omega]
  rw [Int.toNat_natCast] at h ⊢
  rw [List.take_add_one, List.take_add_one, List.map_append, ← h, List.take_set_of_le (Nat.le_refl j), List.getElem?_set_self hj, List.getElem?_eq_getElem hjc]
  unfold rd
  rw [Int.toNat_natCast, List.getD_eq_getElem?_getD, List.getElem?_eq_getElem hjc]
  rfl
def GoodRow (W : World) (v : Value) (L : List Int) : Prop := ∃ A c, v = .slice A L.length c ∧ L.length ≤ c ∧ CB W A L.length L
theorem GoodRow.below {W W' : World} {v : Value} {L : List Int} (h : GoodRow W v L) (hB : Below W.heap.size W W') : GoodRow W' v L := by
  obtain ⟨A, c, e, hc, hC⟩ := h
  exact ⟨A, c, e, hc, Kd.C_below hC hB⟩
theorem GoodRow.of {W : World} {b : Nat} {ok : Nat → Prop} {v : Value} {L : List Int} (h : (Kd.int .u8).R 5 W b ok v L) : GoodRow W v L := by
  obtain ⟨A, c, rfl, hl, hr⟩ := Kd.R_reads h
  exact ⟨A, c, rfl, hl, hr⟩
def GoodZ (W : World) (v : Value) (L : List Int) : Prop := ∃ A c, v = .slice A L.length c ∧ L.length ≤ c ∧ Kd.C (Kd.int .i64) W A L.length L
theorem GoodZ.below {W W' : World} {v : Value} {L : List Int} (h : GoodZ W v L) (hB : Below W.heap.size W W') : GoodZ W' v L := by
  obtain ⟨A, c, e, hc, hC⟩ := h
  exact ⟨A, c, e, hc, Kd.C_below hC hB⟩
theorem GoodZ.of {W : World} {b : Nat} {ok : Nat → Prop} {v : Value} {L : List Int} (h : (Kd.int .i64).R 3 W b ok v L) : GoodZ W v L := by
  obtain ⟨A, c, rfl, hl, hr⟩ := Kd.R_reads h
  exact ⟨A, c, rfl, hl, hr⟩
abbrev Z8 : Array Value := #[.slice none 0 0, .slice none 0 0, .slice none 0 0, .slice none 0 0, .slice none 0 0, .slice none 0 0, .slice none 0 0, .slice none 0 0]
def GoodP (W0 W : World) (v : Value) : Prop := ∃ ga, v = .pointer (some ⟨ga, 0, none⟩) ∧ W0.heap.size ≤ ga ∧ W.heap[ga]? = some (.cells Z8 61 (0, 0))
theorem GoodP.below {W0 W W' : World} {v : Value} (h : GoodP W0 W v) (hB : Below W.heap.size W W') : GoodP W0 W' v := by
  obtain ⟨ga, e, h1, h2⟩ := h
  exact ⟨ga, e, h1, blk_below h2 hB⟩
structure BF (W : World) (g : Nat) (T : Tab) (p : TL) (ad1 ad4 ad5 : Addr) (r1 r4 r5 : Value) : Prop where
  k1 : W.cell? ⟨g, 256, none⟩ = some (.slice (some ad1) T.next.length p.c1)
  k2 : W.cell? ⟨g, 257, none⟩ = some (.slice p.a2 T.rule.length p.c2)
  k3 : W.cell? ⟨g, 258, none⟩ = some (.slice p.a3 T.terms.length p.c3)
  k4 : W.cell? ⟨g, 259, none⟩ = some (.slice (some ad4) T.action.length p.c4)
  k5 : W.cell? ⟨g, 260, none⟩ = some (.slice (some ad5) T.goto.length p.c5)
  k6 : W.cell? ⟨g, 261, none⟩ = some (.slice p.a6 T.left.length p.c6)
  e1 : W.cell? ad1 = some r1
  e4 : W.cell? ad4 = some r4
  e5 : W.cell? ad5 = some r5
theorem BF.below {W W' : World} {g : Nat} {T : Tab} {p : TL} {ad1 ad4 ad5 : Addr} {r1 r4 r5 : Value} (h : BF W g T p ad1 ad4 ad5 r1 r4 r5) (hB : Below W.heap.size W W') : BF W' g T p ad1 ad4 ad5 r1 r4 r5 :=
  have f : ∀ {a : Addr} {v : Value}, W.cell? a = some v → W'.cell? a = some v := fun hc => (hB.cell (World.block_lt_of_cell? W _ hc)).trans hc
  ⟨f h.k1, f h.k2, f h.k3, f h.k4, f h.k5, f h.k6, f h.e1, f h.e4, f h.e5⟩
def tT (g : Nat) (T : Tab) (p : TL) : Thing := ⟨fun W ok => ok g ∧ TBlk W g T p 29, fun h hk => ⟨hk _ h.1, h.2⟩, fun h hm => ⟨h.1, (hm g h.1 (blk_lt h.2)).trans h.2⟩⟩
theorem Sep.tab {W : World} {N : Nat} {Xs : List Thing} (h : Sep W N Xs) (i g : Nat) (T : Tab) (p : TL) (hi : Xs[i]? = some (tT g T p)) : TBlk W g T p 29 := by
  obtain ⟨S, hX, _⟩ := h.get i _ hi
  exact hX.2
theorem Sep.nilB {W : World} {N base : Nat} {Xs : List Thing} (h : Sep W N Xs) : Sep W W.heap.size (Xs ++ [tB base (.slice none 0 0) []]) := h.add _ (show (Kd.int .u8).R 5 W base _ (.slice none 0 0) [] from Kd.R_nil _ _ _ _ _)
theorem noU8_of (cs : Array Value) (h : ∀ v ∈ cs.toList, ∀ x, v ≠ .int .u8 x) : noU8 cs := fun i x hx => h _ (by rw [← Array.getElem?_toList] at hx; exact List.mem_of_getElem? hx) x rfl
theorem Z8_nb {W : World} {ga : Nat} (h : W.heap[ga]? = some (.cells Z8 61 (0, 0))) : NB W ga := ⟨_, _, _, h, noU8_of _ (fun v hv x hx => by subst hx; simp at hv)⟩
def GV (W : World) (V : List Value) (L : List S48) : Prop := V.length = L.length ∧ ∀ (i : Nat) (s : S48), L[i]? = some s → ∃ A c, V[i]? = some (.slice A s.f1.length c) ∧ s.f1.length ≤ c ∧ CB W A s.f1.length s.f1
theorem GV.nil (W : World) : GV W [] [] := ⟨rfl, fun i s h => by simp at h⟩
theorem GV.cons {W : World} {V : List Value} {L : List S48} {s : S48} {A : Option Addr} {n c : Nat} (hn : s.f1.length = n) (hc : n ≤ c) (hC : CB W A n s.f1) (h : GV W V L) : GV W (.slice A n c :: V) (s :: L) := by
  subst hn
  refine ⟨by rw [List.length_cons, List.length_cons, h.1], fun i s' hs => ?_⟩
  rcases i with _ | i
  · injection hs with hs
    subst hs
    exact ⟨A, c, rfl, hc, hC⟩
  exact h.2 i s' hs
theorem size61 : (Try.prog.info? 61).map (·.size) = some 8 := by kernel_rfl
theorem idx_V8 {V : List Value} (h : V.length = 8) (i : Int) (h0 : 0 ≤ i) (h1 : i < 8) {A : Option Addr} {n c : Nat} (hv : V[i.toNat]? = some (.slice A n c)) (W : World) : (Instr.index 61 (.agg V.toArray) (.int .i64 i)).run Try.prog W = .ok (.slice A n c) W := by
  have hi : 0 ≤ i ∧ i < ((8 : Nat) : Int) := ⟨h0, h1⟩
  have hs : (sizeOf 31).run Try.prog W = .ok 1 W := by
    obtain ⟨i3, e3, hz3⟩ := Option.map_eq_some_iff.1 info31
    simp only [Prod.mk.injEq] at hz3
    simp [sizeOf, typeInfo, e3, hz3.2.1, go_sem]
  have hp : (part 31 V.toArray (i.toNat * 1)).run Try.prog W = .ok (.slice A n c) W := by
    simp [part, isAgg, run_underlying Try.underlying31, hv, go_sem]
  simp only [Instr.index, asIntOf, Sem.run_bind, Sem.run_pure, Result.andThen_ok, run_underlying Try.underlying61]
  rw [if_pos hi]
  simp only [Sem.run_bind, hs, Result.andThen_ok]
  exact hp
theorem secL_tag (T : Tab) (i : Nat) (s : S48) (h : (secL T)[i]? = some s) : s.f0 = (i : Int) + 1 := by
  match i with
  | 0 => injection h with h; subst h; rfl
  | 1 => injection h with h; subst h; rfl
  | 2 => injection h with h; subst h; rfl
  | 3 => injection h with h; subst h; rfl
  | 4 => injection h with h; subst h; rfl
  | 5 => injection h with h; subst h; rfl
  | 6 => injection h with h; subst h; rfl
  | 7 => injection h with h; subst h; rfl
  | j + 8 => simp [secL] at h
theorem secL_big {T : Tab} (M : MayParts T) (hc : T.cls.length = 256) : ∀ s ∈ secL T, s.f1.length ≤ 2000000 := by
  have D := dfa_parts M.dfa
  have c1 := numsL_length 0 (dimsL T) (fits_dims D M.t M.s2 M.t2 M.n2 M.p2)
  have c3 := numsL_length 1 T.next.flatten (fits_next D).1
  have c3' := (fits_next D).2
  have c4 := numsL_length 1 T.rule (fits_rule D)
  have c5 := numsL_length 0 T.terms (fits_terms M.mt M.t2)
  have c6 := numsL_length 0 (T.action.flatten.map codeI) (fun x hx => by
    obtain ⟨a, ha, rfl⟩ := List.mem_map.1 hx
    obtain ⟨row, hr, ha⟩ := List.mem_flatten.1 ha
    have := may_code M a row hr ha
    omega)
  have c6' : T.action.flatten.length ≤ T.action.length * 48 := flat_len 48 T.action (fun r hr => by have := may_row M r hr; have := M.t2; omega)
  have c7 := numsL_length 1 T.goto.flatten (fits_goto M.mr M.g M.s2 M.n2).1
  have c7' := (fits_goto M.mr M.g M.s2 M.n2).2
  have c8 := numsL_length 0 (prodsL T) (fun x hx => by
    unfold prodsL at hx
    obtain ⟨y, hy, hx⟩ := List.mem_flatten.1 hx
    obtain ⟨q, hq, rfl⟩ := List.mem_map.1 hy
    have := may_prod M q hq
    simp only [List.mem_cons, List.not_mem_nil, or_false] at hx
    rcases hx with rfl | rfl <;> omega)
  have c8' : (prodsL T).length ≤ T.left.length * 2 := by
    unfold prodsL
    refine Nat.le_trans (flat_len 2 _ (fun r hr => ?_)) ?_
    · obtain ⟨q, _, rfl⟩ := List.mem_map.1 hr
      exact Nat.le_refl _
    rw [List.length_map, List.length_zip, M.z, Nat.min_self]; exact Nat.le_refl _
  have n2 := D.n2
  have u := D.u
  have t := M.t
  have s2 := M.s2
  have p2 := M.p2
  have d7 : (dimsL T).length = 7 := rfl
  rw [List.length_map] at c6
  intro s hs
  unfold secL at hs
  simp only [List.mem_cons, List.not_mem_nil, or_false] at hs
  rcases hs with h | h | h | h | h | h | h | h <;> subst h <;> dsimp only
  all_goals first | omega | (rw [List.length_map]; omega)
theorem pack_n (kind : Int) (L : List S48) (A : Option Addr) (n c : Nat) (w : World) (hn : L.length = n) (hl : n ≤ 8) (hO : OKs L) (hbig : ∀ s ∈ L, s.f1.length ≤ 2000000) (hC : Kd.C k48 w A n L) (hc : n ≤ c) :
    Calls Try.prog 16 #[.int .i64 kind, .slice A n c] w fun e w' => ∃ v, e = .returned (.tuple #[v, .int .i64 (packI kind L).2]) ∧ (Kd.int .u8).R 5 w' w.heap.size (fun _ => True) v (packI kind L).1 ∧ Below w.heap.size w w' := by
  subst hn
  obtain ⟨k, hk⟩ := (pack_ev kind L (by omega) hO (fun s hs => by have := hbig s hs; omega)).rounds
  exact pack_Pack.calls k kind A c L _ _ w hC hc hk
set_option maxHeartbeats 16000000 in
set_option maxRecDepth 100000 in
theorem Bytes_calls (T : Tab) (p : TL) (w : World) (hT : TabR w T p) (hl1 : T.next.length ≤ 9223372036854775806) (hl2 : T.rule.length ≤ 9223372036854775806) (hl3 : T.terms.length ≤ 9223372036854775806) :
    Calls Try.prog 10 #[.agg (tcells T p).toArray] w fun e w' => ∃ v, e = .returned (.tuple #[v, .int .i64 (bytesI T).2]) ∧ (Kd.int .u8).R 5 w' w.heap.size (fun _ => True) v (bytesI T).1 ∧ Below w.heap.size w w' := by
  have HT0 := Aside0.mk hT
  have HCL := Aside0.mk hT.cls
  have HL1 := Aside0.mk hl1
  have HL2 := Aside0.mk hl2
  have HL3 := Aside0.mk hl3
  obtain ⟨b, hb_⟩ : ∃ b, mayB T = b := ⟨_, rfl⟩
  have HM := Aside0.mk hb_
  clear hb_ hT hl1 hl2 hl3
  go_enter Try.func10, Try.ntmps10
  cases b
  · have HF := Aside0.mk (show bytesI T = ([], 220) from by unfold bytesI; rw [HM.out]; rfl)
    go_wp2_with (first | ((with_reducible refine gate_dst (N := 1) rfl ?_); refine box_event ?hg (N := 1) ?hd (cs := (tcells T p).toArray) (t := 29) ?hr ?_; (case hd => rfl); (case hg => rfl); (case hr => first | (go_simp; done) | (go_simp; rfl)); intro g hg w1 hbox hb; have hgz : w.heap.size ≤ g := Nat.le_of_eq hg.symm; clear hg; have hbx1 : TBlk w1 g T p 29 := hbox; clear hbox; have s1 := ((Sep.nil w).below hb).add (tT g T p) ⟨⟨hgz, blk_lt hbx1⟩, hbx1⟩) | ((with_reducible refine gate_dst (N := 20) rfl ?_); refine wpList_load_mid rfl 29 (.tmp 1) rfl g 0 rfl (tcells T p) _ (TBlk.rangeT hbx1) Try.underlying29 rfl (by rw [tcells_length HCL.out]; exact size29) ?_) | (go_at_call 13; refine (Check_calls T p _ (HT0.out.below hb) HL1.out HL2.out HL3.out).mono ?_; rintro e w2 ⟨he, hb2⟩; rw [HM.out] at he; subst he; have hB2 := below_step hb hb2; have s2 := s1.below hb2))
    go_ret2
    rw [HF.out]
    exact ⟨_, rfl, Kd.R_nil _ _ _ _ _, hB2⟩
  have HF := Aside0.mk (show bytesI T = packI 1 (secL T) from by unfold bytesI; rw [HM.out]; rfl)
  have MP := Aside0.mk (may_parts HM.out)
  go_upto_region 4 with (first | ((with_reducible refine gate_dst (N := 1) rfl ?_); refine box_event ?hg (N := 1) ?hd (cs := (tcells T p).toArray) (t := 29) ?hr ?_; (case hd => rfl); (case hg => rfl); (case hr => first | (go_simp; done) | (go_simp; rfl)); intro g hg w1 hbox hb; have hgz : w.heap.size ≤ g := Nat.le_of_eq hg.symm; clear hg; have hbx1 : TBlk w1 g T p 29 := hbox; clear hbox; have s1 := ((Sep.nil w).below hb).add (tT g T p) ⟨⟨hgz, blk_lt hbx1⟩, hbx1⟩) | ((with_reducible refine gate_dst (N := 20) rfl ?_); refine wpList_load_mid rfl 29 (.tmp 1) rfl g 0 rfl (tcells T p) _ (TBlk.rangeT hbx1) Try.underlying29 rfl (by rw [tcells_length HCL.out]; exact size29) ?_) | (go_at_call 13; refine (Check_calls T p _ (HT0.out.below hb) HL1.out HL2.out HL3.out).mono ?_; rintro e w2 ⟨he, hb2⟩; rw [HM.out] at he; subst he; have hB2 := below_step hb hb2; have s2 := s1.below hb2))
  have HB2 := Aside0.mk hB2
  have S2 := Aside0.mk s2
  clear hB2 s2 s1 hbx1 hb hb2 hgz
  go_wp2_with (first | ((with_reducible refine gate_dst (N := 25) rfl ?_); refine Kd.R_make (Kd.int .u8) (w0 := _) _ 5 rfl (N := 25) rfl 31 _ _ rfl 256 rfl rfl Try.underlying31 (.int .u8 0) 1 info5 rfl (by decide) (by omega) 0 (ok := fun _ => True) (okp := fun _ => True) rfl (fun _ hk => hk) trivial (by omega) (by omega) (Below.refl _ _) (Nat.le_refl _) ?_; intro vc w3 hRc hbc _ _; obtain ⟨Z, hZ⟩ : ∃ Z, Z = List.replicate (256 : Int).toNat (0 : Int) := ⟨_, rfl⟩; rw [← hZ] at hRc; have HZL := Aside0.mk (show Z.length = 256 from (by rw [hZ, List.length_replicate]; rfl)); clear hZ; obtain ⟨Ac, cc, ec⟩ := Kd.R_slice hRc; rw [HZL.out] at ec; subst ec; obtain ⟨gc, of_, ef, _⟩ := Kd.R_form hRc (by rw [HZL.out]; decide); have hAf : Ac = some ⟨gc, 0, none⟩ := (by injection ef); clear ef; subst hAf; have S3 := Aside0.mk (Sep.addB (w := w) S2.out HB2.out hbc hRc); have HB3 := Aside0.mk (below_step HB2.out hbc); clear hRc hbc) | ((with_reducible refine gate_dst (N := 28) rfl ?_); refine wpList_load_mid rfl 22 (.tmp 27) rfl g 0 rfl (ccells T) _ (TBlk.rangeC (S3.out.tab 0 g T p rfl) HCL.out) Try.underlying22 rfl (by rw [ccells_length, HCL.out]; exact size22) ?_))
  go_loopg [29] 257 (fun kq v29 w' => ∃ (i : Int) (y : List Int), v29 = .int .i64 i ∧ Aside0 (0 ≤ i) ∧ Aside0 (i ≤ 256) ∧ Aside0 ((kq : Int) + i = 257) ∧ Aside0 (y.length = 256) ∧ Aside0 (y.take i.toNat = (T.cls.take i.toNat).map (fun k => k % 256)) ∧ Aside0 (Sep w' w'.heap.size [tT g T p, tB w.heap.size (.slice (some ⟨gc, 0, none⟩) 256 cc) y]) ∧ Aside0 (Below w.heap.size w w'))
  case atStart => exact ⟨0, Z, rfl, ⟨by decide⟩, ⟨by decide⟩, ⟨by decide⟩, HZL, ⟨rfl⟩, S3, HB3⟩
  obtain ⟨i, y, rfl, hi0, hi1, hk, hyl, hyt, hS, hB⟩ := hrel
  clear S3 HB3 HZL
  have hkk := hk.out
  by_cases hlt : i < 256
  · have l1 : decide (i < 256) = true := decide_eq_true hlt
    have hwi : IntKind.i64.wrap (i + 1) = i + 1 := by have := hi0.out; simp only [i64_w]; unfold wrap64; omega
    have hx := fun W => idx_cls HCL.out i hi0.out hlt W
    obtain ⟨hcell, hfr, hput⟩ := Sep.put (w := w) hS.out 1 rfl hB.out i hi0.out (by omega)
    have p3 := eq_true hi0.out
    have q3 := eq_true hlt
    have q3n : (i < ((256 : Nat) : Int)) = True := eq_true hlt
    have HLT := Aside0.mk hlt
    have HPUT := Aside0.mk (hput (rd T.cls i % 256))
    clear hlt hput
    go_wp2
    go_roundg (gk - 1)
    case measure => have := HLT.out; have := hi0.out; omega
    case rel => exact ⟨i + 1, y.set i.toNat (rd T.cls i % 256), rfl, ⟨by have := hi0.out; omega⟩, ⟨by have := HLT.out; omega⟩, ⟨by have := HLT.out; omega⟩, ⟨by rw [List.length_set]; exact hyl.out⟩, ⟨take_set_next (fun k => k % 256) y T.cls i hi0.out (by have := HLT.out; rw [hyl.out]; omega) (by rw [HCL.out, hyl.out]) hyt.out⟩, ⟨HPUT.out.1⟩, ⟨HPUT.out.2⟩⟩
  have l1 : decide (i < 256) = false := decide_eq_false hlt
  have hy : y = T.cls.map (fun k => k % 256) := by
    have h := hyt.out
    rw [List.take_of_length_le (by rw [hyl.out]; omega), List.take_of_length_le (by rw [HCL.out]; omega)] at h
    exact h
  have S4 := Aside0.mk (show Sep wr wr.heap.size [tT g T p, tB w.heap.size (.slice (some ⟨gc, 0, none⟩) 256 cc) (T.cls.map (fun k => k % 256)), tB w.heap.size (.slice none 0 0) []] from by have h := hS.out.nilB (base := w.heap.size); rw [hy] at h; exact h)
  clear hkk hk hyt hi0 hi1 hlt hS hyl hy
  have M := MP.out
  have hM1 := M.s1
  have hM2 := M.s2
  obtain ⟨ad4, _, _, ea4, _, _, _⟩ := at_LA HT0.out.r4 0 (by decide) (by omega)
  have k4 : wr.cell? ⟨g, 259, none⟩ = some (.slice (some ad4) T.action.length p.c4) := (TBlk.tail (S4.out.tab 0 g T p rfl) HCL.out 1).trans (by rw [← ea4]; rfl)
  clear hM1 hM2
  go_wp2_with (fail)
  go_loopg [8, 42] (T.action.length + 1) (fun kq v8 v42 w' => ∃ (i : Int) (Bs : List Int) (Ab : Option Addr) (cb : Nat), v42 = .int .i64 i ∧ v8 = .slice Ab Bs.length cb ∧ Aside0 (0 ≤ i) ∧ Aside0 (i ≤ (T.action.length : Int)) ∧ Aside0 ((kq : Int) + i = (T.action.length : Int) + 1) ∧ Aside0 (Bs = numsL 0 ((T.action.take i.toNat).flatten.map codeI)) ∧ Aside0 ((Bs.length : Int) ≤ i * 400) ∧ Aside0 (Sep w' w'.heap.size [tT g T p, tB w.heap.size (.slice (some ⟨gc, 0, none⟩) 256 cc) (T.cls.map (fun k => k % 256)), tB w.heap.size (.slice Ab Bs.length cb) Bs]) ∧ Aside0 (Below w.heap.size w w'))
  case atStart => exact ⟨0, [], none, 0, rfl, rfl, ⟨by decide⟩, ⟨by omega⟩, ⟨by omega⟩, ⟨rfl⟩, ⟨by decide⟩, S4, hB⟩
  clear S4 hB k4
  obtain ⟨i, Bs, Ab, cb, rfl, rfl, hi0, hi1, hk, hBe, hBl, hS, hB⟩ := hrel
  have hkk := hk.out
  obtain ⟨gO, hgO⟩ : ∃ gO, gO = gk := ⟨_, rfl⟩
  rw [← hgO] at hkk
  by_cases hlt : i < (T.action.length : Int)
  · have l2 : decide (i < (T.action.length : Int)) = true := decide_eq_true hlt
    have hwi : IntKind.i64.wrap (i + 1) = i + 1 := by have := hi0.out; have := M.s2; simp only [i64_w]; unfold wrap64; omega
    have p1 := eq_true hi0.out
    have q1 := eq_true hlt
    obtain ⟨ad4', Ar, cr, ea4', hx_, hlr, hCr⟩ := at_LA HT0.out.r4 i hi0.out hlt
    obtain rfl : ad4 = ad4' := by rw [ea4] at ea4'; injection ea4'
    have hxr := (hB.out.cell (World.block_lt_of_cell? w _ hx_)).trans hx_
    have HROW := Aside0.mk (show rd_LA T.action i ∈ T.action from by
      have hj : i.toNat < T.action.length := by have := hi0.out; omega
      unfold rd_LA
      rw [List.getD_eq_getElem?_getD, List.getElem?_eq_getElem hj]
      exact List.getElem_mem hj)
    have HTK := Aside0.mk (show (T.action.take (i + 1).toNat).flatten = (T.action.take i.toNat).flatten ++ rd_LA T.action i from by
      have hj : i.toNat < T.action.length := by have := hi0.out; omega
      rw [show (i + 1).toNat = i.toNat + 1 by have := hi0.out; omega, List.take_add_one, List.flatten_append, List.getElem?_eq_getElem hj]
      unfold rd_LA
      rw [List.getD_eq_getElem?_getD, List.getElem?_eq_getElem hj]
      simp)
    have HLT := Aside0.mk hlt
    clear hlt ea4'
    generalize rd_LA T.action i = row at hx_ hlr hCr HROW HTK hxr
    have HRL := Aside0.mk (may_row M row HROW.out)
    have HCr := Aside0.mk hCr
    clear hCr hlr hx_
    go_wp2_with (fail)
    go_loopg [8, 48] (row.length + 1) (fun kq v8 v48 w' => ∃ (k : Int) (Bs : List Int) (Ab : Option Addr) (cb : Nat), v48 = .int .i64 k ∧ v8 = .slice Ab Bs.length cb ∧ Aside0 (0 ≤ k) ∧ Aside0 (k ≤ (row.length : Int)) ∧ Aside0 ((kq : Int) + k = (row.length : Int) + 1) ∧ Aside0 (Bs = numsL 0 (((T.action.take i.toNat).flatten ++ row.take k.toNat).map codeI)) ∧ Aside0 ((Bs.length : Int) ≤ i * 400 + k * 8) ∧ Aside0 (Sep w' w'.heap.size [tT g T p, tB w.heap.size (.slice (some ⟨gc, 0, none⟩) 256 cc) (T.cls.map (fun k => k % 256)), tB w.heap.size (.slice Ab Bs.length cb) Bs]) ∧ Aside0 (Below w.heap.size w w'))
    case atStart => exact ⟨0, Bs, Ab, cb, rfl, rfl, ⟨by decide⟩, ⟨by omega⟩, ⟨by omega⟩, ⟨by rw [hBe.out]; simp⟩, ⟨by have := hBl.out; omega⟩, hS, hB⟩
    clear hS hB hBe hBl hxr
    obtain ⟨k, Bs, Ab, cb, rfl, rfl, hk0, hk1, hkk2, hBe, HBl, hS, hB⟩ := hrel
    have hkk3 := hkk2.out
    by_cases hlt : k < (row.length : Int)
    · have l3 : decide (k < (row.length : Int)) = true := decide_eq_true hlt
      have hwk : IntKind.i64.wrap (k + 1) = k + 1 := by have := hk0.out; have := HRL.out; have := M.t2; simp only [i64_w]; unfold wrap64; omega
      have p2 := eq_true hk0.out
      have q3 := eq_true hlt
      obtain ⟨ad3, ea3, hx30, hx31⟩ := at_T38 HCr.out k hk0.out hlt
      subst ea3
      have hx0 := (hB.out.cell (World.block_lt_of_cell? w _ hx30)).trans hx30
      have hx1 := (hB.out.cell (World.block_lt_of_cell? w _ hx31)).trans hx31
      have HXM := Aside0.mk (show rd_T38 row k ∈ row from by
        have hj : k.toNat < row.length := by have := hk0.out; omega
        unfold rd_T38
        rw [List.getD_eq_getElem?_getD, List.getElem?_eq_getElem hj]
        exact List.getElem_mem hj)
      have HTK2 := Aside0.mk (show row.take (k + 1).toNat = row.take k.toNat ++ [rd_T38 row k] from by
        have hj : k.toNat < row.length := by have := hk0.out; omega
        rw [show (k + 1).toNat = k.toNat + 1 by have := hk0.out; omega, List.take_add_one, List.getElem?_eq_getElem hj]
        unfold rd_T38
        rw [List.getD_eq_getElem?_getD, List.getElem?_eq_getElem hj]
        rfl)
      have HLK := Aside0.mk hlt
      clear hlt hx30 hx31
      generalize rd_T38 row k = y at hx0 hx1 HXM HTK2
      have HCO := Aside0.mk (may_code M y row HROW.out HXM.out)
      have HWR := Aside0.mk (show fits 0 [codeI y] from fun x hx => by rw [List.mem_singleton.1 hx]; have := HCO.out; omega)
      have HNl := Aside0.mk (show (numsL 0 [codeI y]).length ≤ 8 from numsL_length 0 [codeI y] HWR.out)
      go_upto_region 17 with (first | ((with_reducible refine gate_dst (N := 13) rfl ?_); refine box_event ?hg (N := 13) ?hd (cs := #[.int .i64 0, .int .i64 0]) (t := 38) ?hr ?_; (case hd => rfl); (case hg => rfl); (case hr => first | (go_simp; done) | (go_simp; rfl)); intro ga hga w2 hbxa hba; have hgz : wr.heap.size ≤ ga := Nat.le_of_eq hga.symm; clear hga; have x0 := (blk_cell hbxa 0).trans (show _ = some (Value.int .i64 0) from rfl); have x1 := (blk_cell hbxa 1).trans (show _ = some (Value.int .i64 0) from rfl); have f0 := blk_frozen hbxa 0; have f1 := blk_frozen hbxa 1))
      have hbx3 := blk_put (blk_put hbxa 0 (.int .i64 y.f0) rfl) 1 (.int .i64 y.f1) rfl
      have hb3 := (hba.setCell (p := ⟨ga, 0, none⟩) hgz (.int .i64 y.f0)).setCell (p := ⟨ga, 1, none⟩) hgz (.int .i64 y.f1)
      generalize (w2.setCell ⟨ga, 0, none⟩ (.int .i64 y.f0)).setCell ⟨ga, 1, none⟩ (.int .i64 y.f1) = w3 at hbx3 hb3 ⊢
      clear x0 x1 f0 f1 hbxa hba hgz hx0 hx1
      have x0 := (blk_cell hbx3 0).trans (show _ = some (Value.int .i64 y.f0) from rfl)
      have x1 := (blk_cell hbx3 1).trans (show _ = some (Value.int .i64 y.f1) from rfl)
      go_wp2_with (first | (go_at_call 24; refine (tables_code.calls y.f0 y.f1 _ _ (code_some y)).mono ?_; rintro e w4 ⟨rfl, hb4⟩) | ((with_reducible refine gate_dst (N := 55) rfl ?_); refine Kd.R_lit (Kd.int .i64) (w0 := _) (N := 55) _ 3 rfl rfl (xs := [codeI y]) (inner := [.int .i64 (codeI y)]) (ok := fun _ => True) (okp := fun _ => False) (by first | (go_simp; done) | (go_simp; rfl)) (Reps.one (show (Kd.int .i64).M _ _ _ (codeI y) [.int .i64 (codeI y)] from rfl) (Reps.none _ _)) (fun _ h => h.elim) trivial (Below.refl _ _) (Nat.le_refl _) (by simp) ?_; intro v5 w5 hR5 hb5 _ _; obtain ⟨A5, c5, e5⟩ := Kd.R_slice hR5; have e5' : v5 = .slice A5 1 c5 := e5; clear e5; subst e5') | (go_at_call 23; refine (nums_n 0 (by decide) [codeI y] HWR.out A5 1 c5 _ rfl (by decide) (Kd.R_reads' hR5).2.2 (Kd.R_reads' hR5).2.1).mono ?_; rintro e w6 ⟨v6, rfl, hR6, hb6⟩; obtain ⟨A6, c6, e6⟩ := Kd.R_slice hR6; subst e6; have hb36 := below_step (below_step (below_step hb3 hb4) hb5) hb6; have s6 := (hS.out.below hb36).now; have hB6 := below_step hB.out hb36) | ((with_reducible refine gate_builtin (b := .append) (xs := #[.tmp 52, .tmp 56]) rfl ?_); at_builtin; obtain ⟨SB, hSB, hbSB, hup⟩ := s6.upd 2 _ rfl; have hSB' : (Kd.int .u8).R 5 w6 w.heap.size SB (.slice Ab Bs.length cb) Bs := hSB; refine Kd.R_append_rows_wide (Kd.int .u8) (w0 := w) w.heap.size rfl (.tmp 52) (.tmp 56) 31 5 (.int .u8 0) 1 rfl Try.underlying31 info5 rfl (by decide) (by omega) (.slice Ab Bs.length cb) Bs (numsL 0 [codeI y]) A6 (numsL 0 [codeI y]).length c6 (fun k => SB k ∨ w6.heap.size ≤ k) (fun _ => False) rfl rfl (Kd.R_mono hSB' (fun k hk => .inl hk)) (Kd.R_reads' hR6).2.2 (fun _ _ h => h) (fun _ h => h.elim) (fun k hk => .inr hk) hB6 hB6.size (by have h5 := HBl.out; have h7 := HNl.out; have h8 := HLT.out; have h9 := M.s2; have h10 := HLK.out; have h11 := HRL.out; have h12 := M.t2; omega) ?_; intro v8 w8 hR8 hB8 hg8 hat8; obtain ⟨A8, c8, e8⟩ := Kd.R_slice hR8; subst e8; have s8 := hup w8 (tB w.heap.size (.slice A8 (Bs ++ numsL 0 [codeI y]).length c8) (Bs ++ numsL 0 [codeI y])) (Kept.of_grown hg8 (Kept.refl _ _) (fun k hk => .inl (hSB'.1 k hk))) (show (Kd.int .u8).R 5 w8 w.heap.size (fun k => (SB k ∨ w6.heap.size ≤ k) ∧ k < w8.heap.size) _ _ from Kd.R_mono (Kd.R_bound hR8) (fun k hk => ⟨hk.1, hk.2.2.1⟩)); clear hR8 hup hSB hSB'))
      go_roundg (gk - 1)
      case measure => have := HLK.out; have := hk0.out; omega
      case rel => exact ⟨k + 1, Bs ++ numsL 0 [codeI y], A8, c8, rfl, by rw [List.length_append], ⟨by have := hk0.out; omega⟩, ⟨by have := HLK.out; omega⟩, ⟨by have := HLK.out; omega⟩, ⟨by rw [hBe.out, HTK2.out, ← numsL_append]; congr 1; simp⟩, ⟨by rw [List.length_append]; have := HBl.out; have := HNl.out; omega⟩, ⟨s8⟩, ⟨hB8⟩⟩
    have l3 : decide (k < (row.length : Int)) = false := decide_eq_false hlt
    have HZ := Aside0.mk (show Bs = numsL 0 ((T.action.take (i + 1).toNat).flatten.map codeI) from by rw [hBe.out, HTK.out, show row.take k.toNat = row from List.take_of_length_le (by omega)])
    have HBl2 := Aside0.mk (show (Bs.length : Int) ≤ (i + 1) * 400 from by have := HBl.out; have := HRL.out; have := M.t2; have := hk1.out; omega)
    clear hkk3 hkk2 hBe HBl hk0 hk1 hlt
    go_wp2_with (fail)
    go_roundg (gO - 1)
    case measure => have := HLT.out; have := hi0.out; omega
    case rel => exact ⟨i + 1, Bs, Ab, cb, rfl, rfl, ⟨by have := hi0.out; omega⟩, ⟨by have := HLT.out; omega⟩, ⟨by have := HLT.out; omega⟩, HZ, HBl2, hS, hB⟩
  have l2 : decide (i < (T.action.length : Int)) = false := decide_eq_false hlt
  have hi1_ := hi1
  have HBA := Aside0.mk (show Bs = numsL 0 (T.action.flatten.map codeI) from by rw [hBe.out, List.take_of_length_le (by omega)])
  clear hkk hk hBe hi0 hi1 hlt
  have HBAL := Aside0.mk (show (Bs.length : Int) ≤ 204800 from by have := hBl.out; have := hi1_.out; have := M.s2; omega)
  have S5 := Aside0.mk (hS.out.nilB (base := w.heap.size))
  obtain ⟨BA, hBA_⟩ : ∃ B, B = Bs := ⟨_, rfl⟩
  have hM1 := M.p1
  have hM2 := M.z
  obtain ⟨ad6, ea6, _⟩ := Kd.at_int HT0.out.r6 0 (by decide) (by omega)
  obtain ⟨ad7, ea7, _⟩ := Kd.at_int HT0.out.r7 0 (by decide) (by omega)
  have k6 : wr.cell? ⟨g, 261, none⟩ = some (.slice (some ad6) T.left.length p.c6) := (TBlk.tail (S5.out.tab 0 g T p rfl) HCL.out 3).trans (by rw [← ea6]; rfl)
  clear hM1 hM2 hBA_ BA hBl hS hi1_
  go_wp2_with (fail)
  go_loopg [9, 63] (T.left.length + 1) (fun kq v9 v63 w' => ∃ (i : Int) (Bs' : List Int) (Ab' : Option Addr) (cb' : Nat), v63 = .int .i64 i ∧ v9 = .slice Ab' Bs'.length cb' ∧ Aside0 (0 ≤ i) ∧ Aside0 (i ≤ (T.left.length : Int)) ∧ Aside0 ((kq : Int) + i = (T.left.length : Int) + 1) ∧ Aside0 (Bs' = numsL 0 (((T.left.zip T.size).take i.toNat).map (fun x => [x.1, x.2])).flatten) ∧ Aside0 ((Bs'.length : Int) ≤ i * 16) ∧ Aside0 (Sep w' w'.heap.size [tT g T p, tB w.heap.size (.slice (some ⟨gc, 0, none⟩) 256 cc) (T.cls.map (fun k => k % 256)), tB w.heap.size (.slice Ab Bs.length cb) Bs, tB w.heap.size (.slice Ab' Bs'.length cb') Bs']) ∧ Aside0 (Below w.heap.size w w'))
  case atStart => exact ⟨0, [], none, 0, rfl, rfl, ⟨by decide⟩, ⟨by omega⟩, ⟨by omega⟩, ⟨rfl⟩, ⟨by decide⟩, S5, hB⟩
  clear S5 hB k6
  obtain ⟨BA, hBA_⟩ : ∃ B, B = Bs := ⟨_, rfl⟩
  obtain ⟨AA, hAA_⟩ : ∃ A, A = Ab := ⟨_, rfl⟩
  obtain ⟨cA, hcA_⟩ : ∃ c, c = cb := ⟨_, rfl⟩
  subst hBA_
  subst hAA_
  subst hcA_
  obtain ⟨i, Bs, Ab, cb, rfl, rfl, hi0, hi1, hk, hBe, HBl, hS, hB⟩ := hrel
  have hkk := hk.out
  by_cases hlt : i < (T.left.length : Int)
  · have l2 : decide (i < (T.left.length : Int)) = true := decide_eq_true hlt
    have hwi : IntKind.i64.wrap (i + 1) = i + 1 := by have := hi0.out; have := M.p2; simp only [i64_w]; unfold wrap64; omega
    have p1 := eq_true hi0.out
    have q1 := eq_true hlt
    have q2 : (i < (T.size.length : Int)) = True := eq_true (by rw [M.z]; exact hlt)
    obtain ⟨ad6', ea6', hx_⟩ := Kd.at_int HT0.out.r6 i hi0.out hlt
    obtain rfl : ad6 = ad6' := by rw [ea6] at ea6'; injection ea6'
    obtain ⟨ad7', ea7', hz_⟩ := Kd.at_int HT0.out.r7 i hi0.out (by rw [M.z]; exact hlt)
    obtain rfl : ad7 = ad7' := by rw [ea7] at ea7'; injection ea7'
    have hxr := (hB.out.cell (World.block_lt_of_cell? w _ hx_)).trans hx_
    have hzr := (hB.out.cell (World.block_lt_of_cell? w _ hz_)).trans hz_
    have k7 : wr.cell? ⟨g, 262, none⟩ = some (.slice (some ad7) T.size.length p.c7) := (TBlk.tail (hS.out.tab 0 g T p rfl) HCL.out 4).trans (by rw [← ea7]; rfl)
    have hd := zip_at T.left T.size (0 : Int) (0 : Int) M.z i hi0.out hlt
    have HPR := Aside0.mk (may_prod M (rd T.left i, rd T.size i) (List.mem_of_mem_drop (i := i.toNat) (by rw [show (T.left.zip T.size).drop i.toNat = (rd T.left i, rd T.size i) :: (T.left.zip T.size).drop (i + 1).toNat from hd]; simp)))
    have HTK := Aside0.mk (show (T.left.zip T.size).take (i + 1).toNat = (T.left.zip T.size).take i.toNat ++ [(rd T.left i, rd T.size i)] from by
      have hh : (T.left.zip T.size)[i.toNat]? = some (rd T.left i, rd T.size i) := by
        have h2 : ((T.left.zip T.size).drop i.toNat)[0]? = some (rd T.left i, rd T.size i) := by rw [show (T.left.zip T.size).drop i.toNat = (rd T.left i, rd T.size i) :: (T.left.zip T.size).drop (i + 1).toNat from hd]; rfl
        rwa [List.getElem?_drop, Nat.add_zero] at h2
      rw [show (i + 1).toNat = i.toNat + 1 by have := hi0.out; omega, List.take_add_one, hh]
      rfl)
    have HLT := Aside0.mk hlt
    clear hlt hd ea6' ea7' hx_ hz_
    generalize rd T.left i = x at hxr HPR HTK
    generalize rd T.size i = z at hzr HPR HTK
    have HWR := Aside0.mk (show fits 0 [x, z] from fun u hu => by
      have h1 := HPR.out
      simp only [List.mem_cons, List.not_mem_nil, or_false] at hu
      rcases hu with rfl | rfl <;> dsimp only at h1 <;> omega)
    have HNl := Aside0.mk (show (numsL 0 [x, z]).length ≤ 16 from numsL_length 0 [x, z] HWR.out)
    go_wp2_with (first | ((with_reducible refine gate_dst (N := 75) rfl ?_); refine Kd.R_lit (Kd.int .i64) (w0 := _) (N := 75) _ 3 rfl rfl (xs := [x, z]) (inner := [.int .i64 x, .int .i64 z]) (ok := fun _ => True) (okp := fun _ => False) (by first | (go_simp; done) | (go_simp; rfl)) (Reps.one (show (Kd.int .i64).M _ _ _ x [.int .i64 x] from rfl) (Reps.one (show (Kd.int .i64).M _ _ _ z [.int .i64 z] from rfl) (Reps.none _ _))) (fun _ h => h.elim) trivial (Below.refl _ _) (Nat.le_refl _) (by simp) ?_; intro v5 w5 hR5 hb5 _ _; obtain ⟨A5, c5, e5⟩ := Kd.R_slice hR5; have e5' : v5 = .slice A5 2 c5 := e5; clear e5; subst e5') | (go_at_call 23; refine (nums_n 0 (by decide) [x, z] HWR.out A5 2 c5 _ rfl (by decide) (Kd.R_reads' hR5).2.2 (Kd.R_reads' hR5).2.1).mono ?_; rintro e w6 ⟨v6, rfl, hR6, hb6⟩; obtain ⟨A6, c6, e6⟩ := Kd.R_slice hR6; subst e6; have hb36 := below_step hb5 hb6; have s6 := (hS.out.below hb36).now; have hB6 := below_step hB.out hb36) | ((with_reducible refine gate_builtin (b := .append) (xs := #[.tmp 68, .tmp 76]) rfl ?_); at_builtin; obtain ⟨SB, hSB, hbSB, hup⟩ := s6.upd 3 _ rfl; have hSB' : (Kd.int .u8).R 5 w6 w.heap.size SB (.slice Ab Bs.length cb) Bs := hSB; refine Kd.R_append_rows_wide (Kd.int .u8) (w0 := w) w.heap.size rfl (.tmp 68) (.tmp 76) 31 5 (.int .u8 0) 1 rfl Try.underlying31 info5 rfl (by decide) (by omega) (.slice Ab Bs.length cb) Bs (numsL 0 [x, z]) A6 (numsL 0 [x, z]).length c6 (fun k => SB k ∨ w6.heap.size ≤ k) (fun _ => False) rfl rfl (Kd.R_mono hSB' (fun k hk => .inl hk)) (Kd.R_reads' hR6).2.2 (fun _ _ h => h) (fun _ h => h.elim) (fun k hk => .inr hk) hB6 hB6.size (by have h5 := HBl.out; have h7 := HNl.out; have h8 := HLT.out; have h9 := M.p2; omega) ?_; intro v8 w8 hR8 hB8 hg8 hat8; obtain ⟨A8, c8, e8⟩ := Kd.R_slice hR8; subst e8; have s8 := hup w8 (tB w.heap.size (.slice A8 (Bs ++ numsL 0 [x, z]).length c8) (Bs ++ numsL 0 [x, z])) (Kept.of_grown hg8 (Kept.refl _ _) (fun k hk => .inl (hSB'.1 k hk))) (show (Kd.int .u8).R 5 w8 w.heap.size (fun k => (SB k ∨ w6.heap.size ≤ k) ∧ k < w8.heap.size) _ _ from Kd.R_mono (Kd.R_bound hR8) (fun k hk => ⟨hk.1, hk.2.2.1⟩)); clear hR8 hup hSB hSB'))
    go_roundg (gk - 1)
    case measure => have := HLT.out; have := hi0.out; omega
    case rel => exact ⟨i + 1, Bs ++ numsL 0 [x, z], A8, c8, rfl, by rw [List.length_append], ⟨by have := hi0.out; omega⟩, ⟨by have := HLT.out; omega⟩, ⟨by have := HLT.out; omega⟩, ⟨by rw [hBe.out, HTK.out, ← numsL_append]; congr 1; simp⟩, ⟨by rw [List.length_append]; have := HBl.out; have := HNl.out; omega⟩, ⟨s8⟩, ⟨hB8⟩⟩
  have l2 : decide (i < (T.left.length : Int)) = false := decide_eq_false hlt
  have HBP := Aside0.mk (show Bs = numsL 0 (prodsL T) from by unfold prodsL; rw [hBe.out, List.take_of_length_le (by rw [List.length_zip, M.z, Nat.min_self]; omega)])
  clear hkk hk hBe hi0 hi1 hlt
  have HD := Aside0.mk (dfa_parts M.dfa)
  have HFD := Aside0.mk (fits_dims HD.out M.t M.s2 M.t2 M.n2 M.p2)
  have HFN := Aside0.mk (fits_next HD.out)
  have HFR := Aside0.mk (fits_rule HD.out)
  have HFT := Aside0.mk (fits_terms M.mt M.t2)
  have HFG := Aside0.mk (fits_goto M.mr M.g M.s2 M.n2)
  have hn1 := HD.out.n1
  have hs1 := M.s1
  have hg1 := M.g
  obtain ⟨ad1, A1, c1, ea1, ra1, _, _⟩ := at_L4 HT0.out.r1 0 (by decide) (by omega)
  obtain ⟨ad4', A4, c4, ea4', ra4, _, _⟩ := at_LA HT0.out.r4 0 (by decide) (by omega)
  obtain rfl : ad4 = ad4' := by rw [ea4] at ea4'; injection ea4'
  obtain ⟨ad5, A5, c5, ea5, ra5, _, _⟩ := at_L4 HT0.out.r5 0 (by decide) (by omega)
  simp only [show (0 : Int).toNat = 0 from rfl, Go.Addr.add, ↓reduceIte] at ra1 ra4 ra5
  rw [show (rd_LA T.action 0).length = tN T from rfl] at ra4
  rw [show (rd_L4 T.goto 0).length = nN T from rfl] at ra5
  obtain ⟨n1, hn1_⟩ : ∃ n, n = (rd_L4 T.next 0).length := ⟨_, rfl⟩
  rw [← hn1_] at ra1
  have HN1 := Aside0.mk hn1_
  have ht := hS.out.tab 0 g T p rfl
  have hBF0 : BF wr g T p ad1 ad4 ad5 (.slice A1 n1 c1) (.slice A4 (tN T) c4) (.slice A5 (nN T) c5) :=
    ⟨(TBlk.mid ht HCL.out 0 (by decide)).trans (by rw [← ea1]; rfl), (TBlk.mid ht HCL.out 1 (by decide)).trans rfl, (TBlk.tail ht HCL.out 0).trans rfl, (TBlk.tail ht HCL.out 1).trans (by rw [← ea4]; rfl), (TBlk.tail ht HCL.out 2).trans (by rw [← ea5]; rfl), (TBlk.tail ht HCL.out 3).trans rfl,
      (hB.out.cell (World.block_lt_of_cell? w _ ra1)).trans ra1, (hB.out.cell (World.block_lt_of_cell? w _ ra4)).trans ra4, (hB.out.cell (World.block_lt_of_cell? w _ ra5)).trans ra5⟩
  have q1 : ((0 : Int) < (T.next.length : Int)) = True := eq_true (by omega)
  have q1n : (0 < T.next.length) = True := eq_true (by omega)
  have q4 : ((0 : Int) < (T.action.length : Int)) = True := eq_true (by omega)
  have q4n : (0 < T.action.length) = True := eq_true (by omega)
  have q5 : ((0 : Int) < (T.goto.length : Int)) = True := eq_true (by omega)
  have q5n : (0 < T.goto.length) = True := eq_true (by omega)
  clear ea4' hn1_ hn1 hs1 hg1 ht ra1 ra4 ra5
  go_wp2_with (fail)
  refine start_ (n := 53) (S := fun w' => BF w' g T p ad1 ad4 ad5 (.slice A1 n1 c1) (.slice A4 (tN T) c4) (.slice A5 (nN T) c5)) (ds := []) #[false, false, false, false, false, false, false, false, false, false, false, false, false, false, false, false, false, false, false, false, false, false, false, false, false, false, false, false, false, false, false, false, false, false, false, false, false, false, false, false, false, false, false, false, false, false, false, false, false, false, false, false, false] (by kernel_rfl) rfl rfl ((hBF0.below (below_drew (Below.refl _ _)))) (fun hHeld => ?_)
  generalize HW : wr.drew = w5 at hHeld ⊢
  have hBF := hHeld
  have hB5 : Below w.heap.size w w5 := by rw [← HW]; exact below_drew hB.out
  have s5 : Sep w5 w5.heap.size [tT g T p, tB w.heap.size (.slice (some ⟨gc, 0, none⟩) 256 cc) (T.cls.map (fun k => k % 256)), tB w.heap.size (.slice AA BA.length cA) BA, tB w.heap.size (.slice Ab Bs.length cb) Bs] := by rw [← HW]; exact (hS.out.below (below_drew (Below.refl _ _))).now
  have HCN := Aside0.mk (show ∀ W, Below w5.heap.size w5 W → Kd.C (Kd.slice 3 (Kd.int .i64)) W (some ad1) T.next.length T.next from fun W hW => by have h := (HT0.out.below (below_step hB5 hW)).r1; rw [ea1] at h; exact h)
  have HCG := Aside0.mk (show ∀ W, Below w5.heap.size w5 W → Kd.C (Kd.slice 3 (Kd.int .i64)) W (some ad5) T.goto.length T.goto from fun W hW => by have h := (HT0.out.below (below_step hB5 hW)).r5; rw [ea5] at h; exact h)
  refine pure_ (i := 0) (N := some 79) (v := ?_) (a' := ?_) #[true, false, false, false, false, false, false, false, false, false, false, false, false, false, false, false, false, false, false, false, false, false, false, false, false, false, false, false, false, false, false, false, false, false, false, false, false, false, false, false, false, false, false, false, false, false, false, false, false, false, false, false, false] rfl rfl (by kernel_rfl) (fun _ _ _ h => h) (Or.inl ⟨by rfl, ?_⟩) ?_ ?_
  rotate_left
  · intro w'
    go_simp
    with_reducible rfl
  rotate_left
  · simp only [Act.put, List.setIfInBounds_toArray, List.set_cons_zero, List.set_cons_succ, i64_w, i32_w]
    rfl
  refine pure_ (i := 1) (N := some 80) (v := ?_) (a' := ?_) #[true, true, false, false, false, false, false, false, false, false, false, false, false, false, false, false, false, false, false, false, false, false, false, false, false, false, false, false, false, false, false, false, false, false, false, false, false, false, false, false, false, false, false, false, false, false, false, false, false, false, false, false, false] rfl rfl (by kernel_rfl) (fun _ _ _ h => h) (Or.inl ⟨by rfl, ?_⟩) ?_ ?_
  rotate_left
  · intro w'
    go_simp
    with_reducible rfl
  rotate_left
  · simp only [Act.put, List.setIfInBounds_toArray, List.set_cons_zero, List.set_cons_succ, i64_w, i32_w]
    rfl
  refine pure_ (i := 4) (N := some 83) (v := ?_) (a' := ?_) #[true, true, false, false, true, false, false, false, false, false, false, false, false, false, false, false, false, false, false, false, false, false, false, false, false, false, false, false, false, false, false, false, false, false, false, false, false, false, false, false, false, false, false, false, false, false, false, false, false, false, false, false, false] rfl rfl (by kernel_rfl) (fun _ _ _ h => h) (Or.inl ⟨by rfl, ?_⟩) ?_ ?_
  rotate_left
  · intro w'
    go_simp
    with_reducible rfl
  rotate_left
  · simp only [Act.put, List.setIfInBounds_toArray, List.set_cons_zero, List.set_cons_succ, i64_w, i32_w]
    rfl
  refine pure_ (i := 5) (N := some 84) (v := ?_) (a' := ?_) #[true, true, false, false, true, true, false, false, false, false, false, false, false, false, false, false, false, false, false, false, false, false, false, false, false, false, false, false, false, false, false, false, false, false, false, false, false, false, false, false, false, false, false, false, false, false, false, false, false, false, false, false, false] rfl rfl (by kernel_rfl) (fun _ _ _ h => h) (Or.inl ⟨by rfl, ?_⟩) ?_ ?_
  rotate_left
  · intro w'
    go_simp
    with_reducible rfl
  rotate_left
  · simp only [Act.put, List.setIfInBounds_toArray, List.set_cons_zero, List.set_cons_succ, i64_w, i32_w]
    rfl
  refine pure_ (i := 10) (N := some 89) (v := ?_) (a' := ?_) #[true, true, false, false, true, true, false, false, false, false, true, false, false, false, false, false, false, false, false, false, false, false, false, false, false, false, false, false, false, false, false, false, false, false, false, false, false, false, false, false, false, false, false, false, false, false, false, false, false, false, false, false, false] rfl rfl (by kernel_rfl) (fun _ _ _ h => h) (Or.inl ⟨by rfl, ?_⟩) ?_ ?_
  rotate_left
  · intro w'
    go_simp
    with_reducible rfl
  rotate_left
  · simp only [Act.put, List.setIfInBounds_toArray, List.set_cons_zero, List.set_cons_succ, i64_w, i32_w]
    rfl
  refine pure_ (i := 13) (N := some 92) (v := ?_) (a' := ?_) #[true, true, false, false, true, true, false, false, false, false, true, false, false, true, false, false, false, false, false, false, false, false, false, false, false, false, false, false, false, false, false, false, false, false, false, false, false, false, false, false, false, false, false, false, false, false, false, false, false, false, false, false, false] rfl rfl (by kernel_rfl) (fun _ _ _ h => h) (Or.inl ⟨by rfl, ?_⟩) ?_ ?_
  rotate_left
  · intro w'
    go_simp
    with_reducible rfl
  rotate_left
  · simp only [Act.put, List.setIfInBounds_toArray, List.set_cons_zero, List.set_cons_succ, i64_w, i32_w]
    rfl
  refine pure_ (i := 16) (N := some 95) (v := ?_) (a' := ?_) #[true, true, false, false, true, true, false, false, false, false, true, false, false, true, false, false, true, false, false, false, false, false, false, false, false, false, false, false, false, false, false, false, false, false, false, false, false, false, false, false, false, false, false, false, false, false, false, false, false, false, false, false, false] rfl rfl (by kernel_rfl) (fun _ _ _ h => h) (Or.inl ⟨by rfl, ?_⟩) ?_ ?_
  rotate_left
  · intro w'
    go_simp
    with_reducible rfl
  rotate_left
  · simp only [Act.put, List.setIfInBounds_toArray, List.set_cons_zero, List.set_cons_succ, i64_w, i32_w]
    rfl
  refine pure_ (i := 21) (N := some 100) (v := ?_) (a' := ?_) #[true, true, false, false, true, true, false, false, false, false, true, false, false, true, false, false, true, false, false, false, false, true, false, false, false, false, false, false, false, false, false, false, false, false, false, false, false, false, false, false, false, false, false, false, false, false, false, false, false, false, false, false, false] rfl rfl (by kernel_rfl) (fun _ _ _ h => h) (Or.inl ⟨by rfl, ?_⟩) ?_ ?_
  rotate_left
  · intro w'
    go_simp
    with_reducible rfl
  rotate_left
  · simp only [Act.put, List.setIfInBounds_toArray, List.set_cons_zero, List.set_cons_succ, i64_w, i32_w]
    rfl
  refine pure_ (i := 26) (N := some 105) (v := ?_) (a' := ?_) #[true, true, false, false, true, true, false, false, false, false, true, false, false, true, false, false, true, false, false, false, false, true, false, false, false, false, true, false, false, false, false, false, false, false, false, false, false, false, false, false, false, false, false, false, false, false, false, false, false, false, false, false, false] rfl rfl (by kernel_rfl) (fun _ _ _ h => h) (Or.inl ⟨by rfl, ?_⟩) ?_ ?_
  rotate_left
  · intro w'
    go_simp
    with_reducible rfl
  rotate_left
  · simp only [Act.put, List.setIfInBounds_toArray, List.set_cons_zero, List.set_cons_succ, i64_w, i32_w]
    rfl
  refine pure_ (i := 31) (N := some 110) (v := ?_) (a' := ?_) #[true, true, false, false, true, true, false, false, false, false, true, false, false, true, false, false, true, false, false, false, false, true, false, false, false, false, true, false, false, false, false, true, false, false, false, false, false, false, false, false, false, false, false, false, false, false, false, false, false, false, false, false, false] rfl rfl (by kernel_rfl) (fun _ _ _ h => h) (Or.inl ⟨by rfl, ?_⟩) ?_ ?_
  rotate_left
  · intro w'
    go_simp
    with_reducible rfl
  rotate_left
  · simp only [Act.put, List.setIfInBounds_toArray, List.set_cons_zero, List.set_cons_succ, i64_w, i32_w]
    rfl
  refine pure_ (i := 32) (N := some 111) (v := ?_) (a' := ?_) #[true, true, false, false, true, true, false, false, false, false, true, false, false, true, false, false, true, false, false, false, false, true, false, false, false, false, true, false, false, false, false, true, true, false, false, false, false, false, false, false, false, false, false, false, false, false, false, false, false, false, false, false, false] rfl rfl (by kernel_rfl) (fun _ _ _ h => h) (Or.inl ⟨by rfl, ?_⟩) ?_ ?_
  rotate_left
  · intro w'
    go_simp
    with_reducible rfl
  rotate_left
  · simp only [Act.put, List.setIfInBounds_toArray, List.set_cons_zero, List.set_cons_succ, i64_w, i32_w]
    rfl
  refine pure_ (i := 33) (N := some 112) (v := ?_) (a' := ?_) #[true, true, false, false, true, true, false, false, false, false, true, false, false, true, false, false, true, false, false, false, false, true, false, false, false, false, true, false, false, false, false, true, true, true, false, false, false, false, false, false, false, false, false, false, false, false, false, false, false, false, false, false, false] rfl rfl (by kernel_rfl) (fun _ _ _ h => h) (Or.inl ⟨by rfl, ?_⟩) ?_ ?_
  rotate_left
  · intro w'
    go_simp
    with_reducible rfl
  rotate_left
  · simp only [Act.put, List.setIfInBounds_toArray, List.set_cons_zero, List.set_cons_succ, i64_w, i32_w]
    rfl
  refine pure_ (i := 37) (N := some 116) (v := ?_) (a' := ?_) #[true, true, false, false, true, true, false, false, false, false, true, false, false, true, false, false, true, false, false, false, false, true, false, false, false, false, true, false, false, false, false, true, true, true, false, false, false, true, false, false, false, false, false, false, false, false, false, false, false, false, false, false, false] rfl rfl (by kernel_rfl) (fun _ _ _ h => h) (Or.inl ⟨by rfl, ?_⟩) ?_ ?_
  rotate_left
  · intro w'
    go_simp
    with_reducible rfl
  rotate_left
  · simp only [Act.put, List.setIfInBounds_toArray, List.set_cons_zero, List.set_cons_succ, i64_w, i32_w]
    rfl
  refine pure_ (i := 38) (N := some 117) (v := ?_) (a' := ?_) #[true, true, false, false, true, true, false, false, false, false, true, false, false, true, false, false, true, false, false, false, false, true, false, false, false, false, true, false, false, false, false, true, true, true, false, false, false, true, true, false, false, false, false, false, false, false, false, false, false, false, false, false, false] rfl rfl (by kernel_rfl) (fun _ _ _ h => h) (Or.inl ⟨by rfl, ?_⟩) ?_ ?_
  rotate_left
  · intro w'
    go_simp
    with_reducible rfl
  rotate_left
  · simp only [Act.put, List.setIfInBounds_toArray, List.set_cons_zero, List.set_cons_succ, i64_w, i32_w]
    rfl
  refine pure_ (i := 41) (N := some 120) (v := ?_) (a' := ?_) #[true, true, false, false, true, true, false, false, false, false, true, false, false, true, false, false, true, false, false, false, false, true, false, false, false, false, true, false, false, false, false, true, true, true, false, false, false, true, true, false, false, true, false, false, false, false, false, false, false, false, false, false, false] rfl rfl (by kernel_rfl) (fun _ _ _ h => h) (Or.inl ⟨by rfl, ?_⟩) ?_ ?_
  rotate_left
  · intro w'
    go_simp
    with_reducible rfl
  rotate_left
  · simp only [Act.put, List.setIfInBounds_toArray, List.set_cons_zero, List.set_cons_succ, i64_w, i32_w]
    rfl
  refine pure_ (i := 44) (N := some 123) (v := ?_) (a' := ?_) #[true, true, false, false, true, true, false, false, false, false, true, false, false, true, false, false, true, false, false, false, false, true, false, false, false, false, true, false, false, false, false, true, true, true, false, false, false, true, true, false, false, true, false, false, true, false, false, false, false, false, false, false, false] rfl rfl (by kernel_rfl) (fun _ _ _ h => h) (Or.inl ⟨by rfl, ?_⟩) ?_ ?_
  rotate_left
  · intro w'
    go_simp
    with_reducible rfl
  rotate_left
  · simp only [Act.put, List.setIfInBounds_toArray, List.set_cons_zero, List.set_cons_succ, i64_w, i32_w]
    rfl
  refine pure_ (i := 45) (N := some 124) (v := ?_) (a' := ?_) #[true, true, false, false, true, true, false, false, false, false, true, false, false, true, false, false, true, false, false, false, false, true, false, false, false, false, true, false, false, false, false, true, true, true, false, false, false, true, true, false, false, true, false, false, true, true, false, false, false, false, false, false, false] rfl rfl (by kernel_rfl) (fun _ _ _ h => h) (Or.inl ⟨by rfl, ?_⟩) ?_ ?_
  rotate_left
  · intro w'
    go_simp
    with_reducible rfl
  rotate_left
  · simp only [Act.put, List.setIfInBounds_toArray, List.set_cons_zero, List.set_cons_succ, i64_w, i32_w]
    rfl
  refine pure_ (i := 49) (N := some 128) (v := ?_) (a' := ?_) #[true, true, false, false, true, true, false, false, false, false, true, false, false, true, false, false, true, false, false, false, false, true, false, false, false, false, true, false, false, false, false, true, true, true, false, false, false, true, true, false, false, true, false, false, true, true, false, false, false, true, false, false, false] rfl rfl (by kernel_rfl) (fun _ _ _ h => h) (Or.inl ⟨by rfl, ?_⟩) ?_ ?_
  rotate_left
  · intro w'
    go_simp
    with_reducible rfl
  rotate_left
  · simp only [Act.put, List.setIfInBounds_toArray, List.set_cons_zero, List.set_cons_succ, i64_w, i32_w]
    rfl
  refine take_ (i := 2) (N := some 81) (v := ?_) (a' := ?_) #[true, true, true, false, true, true, false, false, false, false, true, false, false, true, false, false, true, false, false, false, false, true, false, false, false, false, true, false, false, false, false, true, true, true, false, false, false, true, true, false, false, true, false, false, true, true, false, false, false, true, false, false, false] rfl rfl (by kernel_rfl) (fun _ _ _ h => h) (Or.inl ⟨by rfl, ?_⟩) hHeld ?_ ?_
  rotate_left
  · intro w' s0
    obtain ⟨k1, k2, k3, k4, k5, k6, e1, e4, e5⟩ := s0
    go_simp
    with_reducible rfl
  rotate_left
  · simp only [Act.put, List.setIfInBounds_toArray, List.set_cons_zero, List.set_cons_succ, i64_w, i32_w]
    rfl
  refine pure_ (i := 3) (N := some 82) (v := ?_) (a' := ?_) #[true, true, true, true, true, true, false, false, false, false, true, false, false, true, false, false, true, false, false, false, false, true, false, false, false, false, true, false, false, false, false, true, true, true, false, false, false, true, true, false, false, true, false, false, true, true, false, false, false, true, false, false, false] rfl rfl (by kernel_rfl) (fun _ _ _ h => h) (Or.inl ⟨by rfl, ?_⟩) ?_ ?_
  rotate_left
  · intro w'
    go_simp
    with_reducible rfl
  rotate_left
  · simp only [Act.put, List.setIfInBounds_toArray, List.set_cons_zero, List.set_cons_succ, i64_w, i32_w]
    rfl
  refine take_ (i := 6) (N := some 85) (v := ?_) (a' := ?_) #[true, true, true, true, true, true, true, false, false, false, true, false, false, true, false, false, true, false, false, false, false, true, false, false, false, false, true, false, false, false, false, true, true, true, false, false, false, true, true, false, false, true, false, false, true, true, false, false, false, true, false, false, false] rfl rfl (by kernel_rfl) (fun _ _ _ h => h) (Or.inl ⟨by rfl, ?_⟩) hHeld ?_ ?_
  rotate_left
  · intro w' s0
    obtain ⟨k1, k2, k3, k4, k5, k6, e1, e4, e5⟩ := s0
    go_simp
    with_reducible rfl
  rotate_left
  · simp only [Act.put, List.setIfInBounds_toArray, List.set_cons_zero, List.set_cons_succ, i64_w, i32_w]
    rfl
  refine pure_ (i := 7) (N := some 86) (v := ?_) (a' := ?_) #[true, true, true, true, true, true, true, true, false, false, true, false, false, true, false, false, true, false, false, false, false, true, false, false, false, false, true, false, false, false, false, true, true, true, false, false, false, true, true, false, false, true, false, false, true, true, false, false, false, true, false, false, false] rfl rfl (by kernel_rfl) (fun _ _ _ h => h) (Or.inl ⟨by rfl, ?_⟩) ?_ ?_
  rotate_left
  · intro w'
    go_simp
    with_reducible rfl
  rotate_left
  · simp only [Act.put, List.setIfInBounds_toArray, List.set_cons_zero, List.set_cons_succ, i64_w, i32_w]
    rfl
  refine take_ (i := 8) (N := some 87) (v := ?_) (a' := ?_) #[true, true, true, true, true, true, true, true, true, false, true, false, false, true, false, false, true, false, false, false, false, true, false, false, false, false, true, false, false, false, false, true, true, true, false, false, false, true, true, false, false, true, false, false, true, true, false, false, false, true, false, false, false] rfl rfl (by kernel_rfl) (fun _ _ _ h => h) (Or.inl ⟨by rfl, ?_⟩) hHeld ?_ ?_
  rotate_left
  · intro w' s0
    obtain ⟨k1, k2, k3, k4, k5, k6, e1, e4, e5⟩ := s0
    go_simp
    with_reducible rfl
  rotate_left
  · simp only [Act.put, List.setIfInBounds_toArray, List.set_cons_zero, List.set_cons_succ, i64_w, i32_w]
    rfl
  refine pure_ (i := 9) (N := some 88) (v := ?_) (a' := ?_) #[true, true, true, true, true, true, true, true, true, true, true, false, false, true, false, false, true, false, false, false, false, true, false, false, false, false, true, false, false, false, false, true, true, true, false, false, false, true, true, false, false, true, false, false, true, true, false, false, false, true, false, false, false] rfl rfl (by kernel_rfl) (fun _ _ _ h => h) (Or.inl ⟨by rfl, ?_⟩) ?_ ?_
  rotate_left
  · intro w'
    go_simp
    with_reducible rfl
  rotate_left
  · simp only [Act.put, List.setIfInBounds_toArray, List.set_cons_zero, List.set_cons_succ, i64_w, i32_w]
    rfl
  refine take_ (i := 11) (N := some 90) (v := ?_) (a' := ?_) #[true, true, true, true, true, true, true, true, true, true, true, true, false, true, false, false, true, false, false, false, false, true, false, false, false, false, true, false, false, false, false, true, true, true, false, false, false, true, true, false, false, true, false, false, true, true, false, false, false, true, false, false, false] rfl rfl (by kernel_rfl) (fun _ _ _ h => h) (Or.inl ⟨by rfl, ?_⟩) hHeld ?_ ?_
  rotate_left
  · intro w' s0
    obtain ⟨k1, k2, k3, k4, k5, k6, e1, e4, e5⟩ := s0
    go_simp
    with_reducible rfl
  rotate_left
  · simp only [Act.put, List.setIfInBounds_toArray, List.set_cons_zero, List.set_cons_succ, i64_w, i32_w]
    rfl
  refine pure_ (i := 12) (N := some 91) (v := ?_) (a' := ?_) #[true, true, true, true, true, true, true, true, true, true, true, true, true, true, false, false, true, false, false, false, false, true, false, false, false, false, true, false, false, false, false, true, true, true, false, false, false, true, true, false, false, true, false, false, true, true, false, false, false, true, false, false, false] rfl rfl (by kernel_rfl) (fun _ _ _ h => h) (Or.inl ⟨by rfl, ?_⟩) ?_ ?_
  rotate_left
  · intro w'
    go_simp
    with_reducible rfl
  rotate_left
  · simp only [Act.put, List.setIfInBounds_toArray, List.set_cons_zero, List.set_cons_succ, i64_w, i32_w]
    rfl
  refine take_ (i := 14) (N := some 93) (v := ?_) (a' := ?_) #[true, true, true, true, true, true, true, true, true, true, true, true, true, true, true, false, true, false, false, false, false, true, false, false, false, false, true, false, false, false, false, true, true, true, false, false, false, true, true, false, false, true, false, false, true, true, false, false, false, true, false, false, false] rfl rfl (by kernel_rfl) (fun _ _ _ h => h) (Or.inl ⟨by rfl, ?_⟩) hHeld ?_ ?_
  rotate_left
  · intro w' s0
    obtain ⟨k1, k2, k3, k4, k5, k6, e1, e4, e5⟩ := s0
    go_simp
    with_reducible rfl
  rotate_left
  · simp only [Act.put, List.setIfInBounds_toArray, List.set_cons_zero, List.set_cons_succ, i64_w, i32_w]
    rfl
  refine pure_ (i := 15) (N := some 94) (v := ?_) (a' := ?_) #[true, true, true, true, true, true, true, true, true, true, true, true, true, true, true, true, true, false, false, false, false, true, false, false, false, false, true, false, false, false, false, true, true, true, false, false, false, true, true, false, false, true, false, false, true, true, false, false, false, true, false, false, false] rfl rfl (by kernel_rfl) (fun _ _ _ h => h) (Or.inl ⟨by rfl, ?_⟩) ?_ ?_
  rotate_left
  · intro w'
    go_simp
    with_reducible rfl
  rotate_left
  · simp only [Act.put, List.setIfInBounds_toArray, List.set_cons_zero, List.set_cons_succ, i64_w, i32_w]
    rfl
  refine take_ (i := 17) (N := some 96) (v := ?_) (a' := ?_) #[true, true, true, true, true, true, true, true, true, true, true, true, true, true, true, true, true, true, false, false, false, true, false, false, false, false, true, false, false, false, false, true, true, true, false, false, false, true, true, false, false, true, false, false, true, true, false, false, false, true, false, false, false] rfl rfl (by kernel_rfl) (fun _ _ _ h => h) (Or.inl ⟨by rfl, ?_⟩) hHeld ?_ ?_
  rotate_left
  · intro w' s0
    obtain ⟨k1, k2, k3, k4, k5, k6, e1, e4, e5⟩ := s0
    go_simp
    with_reducible rfl
  rotate_left
  · simp only [Act.put, List.setIfInBounds_toArray, List.set_cons_zero, List.set_cons_succ, i64_w, i32_w]
    rfl
  refine pure_ (i := 18) (N := some 97) (v := ?_) (a' := ?_) #[true, true, true, true, true, true, true, true, true, true, true, true, true, true, true, true, true, true, true, false, false, true, false, false, false, false, true, false, false, false, false, true, true, true, false, false, false, true, true, false, false, true, false, false, true, true, false, false, false, true, false, false, false] rfl rfl (by kernel_rfl) (fun _ _ _ h => h) (Or.inl ⟨by rfl, ?_⟩) ?_ ?_
  rotate_left
  · intro w'
    go_simp
    with_reducible rfl
  rotate_left
  · simp only [Act.put, List.setIfInBounds_toArray, List.set_cons_zero, List.set_cons_succ, i64_w, i32_w]
    rfl
  refine take_ (i := 19) (N := some 98) (v := ?_) (a' := ?_) #[true, true, true, true, true, true, true, true, true, true, true, true, true, true, true, true, true, true, true, true, false, true, false, false, false, false, true, false, false, false, false, true, true, true, false, false, false, true, true, false, false, true, false, false, true, true, false, false, false, true, false, false, false] rfl rfl (by kernel_rfl) (fun _ _ _ h => h) (Or.inl ⟨by rfl, ?_⟩) hHeld ?_ ?_
  rotate_left
  · intro w' s0
    obtain ⟨k1, k2, k3, k4, k5, k6, e1, e4, e5⟩ := s0
    go_simp
    with_reducible rfl
  rotate_left
  · simp only [Act.put, List.setIfInBounds_toArray, List.set_cons_zero, List.set_cons_succ, i64_w, i32_w]
    rfl
  refine pure_ (i := 20) (N := some 99) (v := ?_) (a' := ?_) #[true, true, true, true, true, true, true, true, true, true, true, true, true, true, true, true, true, true, true, true, true, true, false, false, false, false, true, false, false, false, false, true, true, true, false, false, false, true, true, false, false, true, false, false, true, true, false, false, false, true, false, false, false] rfl rfl (by kernel_rfl) (fun _ _ _ h => h) (Or.inl ⟨by rfl, ?_⟩) ?_ ?_
  rotate_left
  · intro w'
    go_simp
    with_reducible rfl
  rotate_left
  · simp only [Act.put, List.setIfInBounds_toArray, List.set_cons_zero, List.set_cons_succ, i64_w, i32_w]
    rfl
  refine take_ (i := 22) (N := some 101) (v := ?_) (a' := ?_) #[true, true, true, true, true, true, true, true, true, true, true, true, true, true, true, true, true, true, true, true, true, true, true, false, false, false, true, false, false, false, false, true, true, true, false, false, false, true, true, false, false, true, false, false, true, true, false, false, false, true, false, false, false] rfl rfl (by kernel_rfl) (fun _ _ _ h => h) (Or.inl ⟨by rfl, ?_⟩) hHeld ?_ ?_
  rotate_left
  · intro w' s0
    obtain ⟨k1, k2, k3, k4, k5, k6, e1, e4, e5⟩ := s0
    go_simp
    with_reducible rfl
  rotate_left
  · simp only [Act.put, List.setIfInBounds_toArray, List.set_cons_zero, List.set_cons_succ, i64_w, i32_w]
    rfl
  refine pure_ (i := 23) (N := some 102) (v := ?_) (a' := ?_) #[true, true, true, true, true, true, true, true, true, true, true, true, true, true, true, true, true, true, true, true, true, true, true, true, false, false, true, false, false, false, false, true, true, true, false, false, false, true, true, false, false, true, false, false, true, true, false, false, false, true, false, false, false] rfl rfl (by kernel_rfl) (fun _ _ _ h => h) (Or.inl ⟨by rfl, ?_⟩) ?_ ?_
  rotate_left
  · intro w'
    go_simp
    with_reducible rfl
  rotate_left
  · simp only [Act.put, List.setIfInBounds_toArray, List.set_cons_zero, List.set_cons_succ, i64_w, i32_w]
    rfl
  refine take_ (i := 24) (N := some 103) (v := ?_) (a' := ?_) #[true, true, true, true, true, true, true, true, true, true, true, true, true, true, true, true, true, true, true, true, true, true, true, true, true, false, true, false, false, false, false, true, true, true, false, false, false, true, true, false, false, true, false, false, true, true, false, false, false, true, false, false, false] rfl rfl (by kernel_rfl) (fun _ _ _ h => h) (Or.inl ⟨by rfl, ?_⟩) hHeld ?_ ?_
  rotate_left
  · intro w' s0
    obtain ⟨k1, k2, k3, k4, k5, k6, e1, e4, e5⟩ := s0
    go_simp
    with_reducible rfl
  rotate_left
  · simp only [Act.put, List.setIfInBounds_toArray, List.set_cons_zero, List.set_cons_succ, i64_w, i32_w]
    rfl
  refine pure_ (i := 25) (N := some 104) (v := ?_) (a' := ?_) #[true, true, true, true, true, true, true, true, true, true, true, true, true, true, true, true, true, true, true, true, true, true, true, true, true, true, true, false, false, false, false, true, true, true, false, false, false, true, true, false, false, true, false, false, true, true, false, false, false, true, false, false, false] rfl rfl (by kernel_rfl) (fun _ _ _ h => h) (Or.inl ⟨by rfl, ?_⟩) ?_ ?_
  rotate_left
  · intro w'
    go_simp
    with_reducible rfl
  rotate_left
  · simp only [Act.put, List.setIfInBounds_toArray, List.set_cons_zero, List.set_cons_succ, i64_w, i32_w]
    rfl
  refine take_ (i := 27) (N := some 106) (v := ?_) (a' := ?_) #[true, true, true, true, true, true, true, true, true, true, true, true, true, true, true, true, true, true, true, true, true, true, true, true, true, true, true, true, false, false, false, true, true, true, false, false, false, true, true, false, false, true, false, false, true, true, false, false, false, true, false, false, false] rfl rfl (by kernel_rfl) (fun _ _ _ h => h) (Or.inl ⟨by rfl, ?_⟩) hHeld ?_ ?_
  rotate_left
  · intro w' s0
    obtain ⟨k1, k2, k3, k4, k5, k6, e1, e4, e5⟩ := s0
    go_simp
    with_reducible rfl
  rotate_left
  · simp only [Act.put, List.setIfInBounds_toArray, List.set_cons_zero, List.set_cons_succ, i64_w, i32_w]
    rfl
  refine pure_ (i := 28) (N := some 107) (v := ?_) (a' := ?_) #[true, true, true, true, true, true, true, true, true, true, true, true, true, true, true, true, true, true, true, true, true, true, true, true, true, true, true, true, true, false, false, true, true, true, false, false, false, true, true, false, false, true, false, false, true, true, false, false, false, true, false, false, false] rfl rfl (by kernel_rfl) (fun _ _ _ h => h) (Or.inl ⟨by rfl, ?_⟩) ?_ ?_
  rotate_left
  · intro w'
    go_simp
    with_reducible rfl
  rotate_left
  · simp only [Act.put, List.setIfInBounds_toArray, List.set_cons_zero, List.set_cons_succ, i64_w, i32_w]
    rfl
  refine take_ (i := 34) (N := some 113) (v := ?_) (a' := ?_) #[true, true, true, true, true, true, true, true, true, true, true, true, true, true, true, true, true, true, true, true, true, true, true, true, true, true, true, true, true, false, false, true, true, true, true, false, false, true, true, false, false, true, false, false, true, true, false, false, false, true, false, false, false] rfl rfl (by kernel_rfl) (fun _ _ _ h => h) (Or.inl ⟨by rfl, ?_⟩) hHeld ?_ ?_
  rotate_left
  · intro w' s0
    obtain ⟨k1, k2, k3, k4, k5, k6, e1, e4, e5⟩ := s0
    go_simp
    with_reducible rfl
  rotate_left
  · simp only [Act.put, List.setIfInBounds_toArray, List.set_cons_zero, List.set_cons_succ, i64_w, i32_w]
    rfl
  refine take_ (i := 39) (N := some 118) (v := ?_) (a' := ?_) #[true, true, true, true, true, true, true, true, true, true, true, true, true, true, true, true, true, true, true, true, true, true, true, true, true, true, true, true, true, false, false, true, true, true, true, false, false, true, true, true, false, true, false, false, true, true, false, false, false, true, false, false, false] rfl rfl (by kernel_rfl) (fun _ _ _ h => h) (Or.inl ⟨by rfl, ?_⟩) hHeld ?_ ?_
  rotate_left
  · intro w' s0
    obtain ⟨k1, k2, k3, k4, k5, k6, e1, e4, e5⟩ := s0
    go_simp
    with_reducible rfl
  rotate_left
  · simp only [Act.put, List.setIfInBounds_toArray, List.set_cons_zero, List.set_cons_succ, i64_w, i32_w]
    rfl
  refine take_ (i := 42) (N := some 121) (v := ?_) (a' := ?_) #[true, true, true, true, true, true, true, true, true, true, true, true, true, true, true, true, true, true, true, true, true, true, true, true, true, true, true, true, true, false, false, true, true, true, true, false, false, true, true, true, false, true, true, false, true, true, false, false, false, true, false, false, false] rfl rfl (by kernel_rfl) (fun _ _ _ h => h) (Or.inl ⟨by rfl, ?_⟩) hHeld ?_ ?_
  rotate_left
  · intro w' s0
    obtain ⟨k1, k2, k3, k4, k5, k6, e1, e4, e5⟩ := s0
    go_simp
    with_reducible rfl
  rotate_left
  · simp only [Act.put, List.setIfInBounds_toArray, List.set_cons_zero, List.set_cons_succ, i64_w, i32_w]
    rfl
  refine take_ (i := 46) (N := some 125) (v := ?_) (a' := ?_) #[true, true, true, true, true, true, true, true, true, true, true, true, true, true, true, true, true, true, true, true, true, true, true, true, true, true, true, true, true, false, false, true, true, true, true, false, false, true, true, true, false, true, true, false, true, true, true, false, false, true, false, false, false] rfl rfl (by kernel_rfl) (fun _ _ _ h => h) (Or.inl ⟨by rfl, ?_⟩) hHeld ?_ ?_
  rotate_left
  · intro w' s0
    obtain ⟨k1, k2, k3, k4, k5, k6, e1, e4, e5⟩ := s0
    go_simp
    with_reducible rfl
  rotate_left
  · simp only [Act.put, List.setIfInBounds_toArray, List.set_cons_zero, List.set_cons_succ, i64_w, i32_w]
    rfl
  refine join_ (σ := Value × Value × Value × Value × Value × Value × Value × Value × Value × Value) 1 #[true, true, true, true, true, true, true, true, true, true, true, true, true, true, true, true, true, true, true, true, true, true, true, true, true, true, true, true, true, true, true, true, true, true, true, true, true, true, true, true, true, true, true, true, true, true, true, true, true, true, true, true, false] (fun s => [(108, s.1), (109, s.2.1), (114, s.2.2.1), (115, s.2.2.2.1), (119, s.2.2.2.2.1), (122, s.2.2.2.2.2.1), (126, s.2.2.2.2.2.2.1), (127, s.2.2.2.2.2.2.2.1), (129, s.2.2.2.2.2.2.2.2.1), (16, s.2.2.2.2.2.2.2.2.2)]) (fun s w' => Below w5.heap.size w5 w' ∧ GoodZ w' s.1 (dimsL T) ∧ GoodRow w' s.2.1 (numsL 0 (dimsL T)) ∧ GoodZ w' s.2.2.1 T.next.flatten ∧ GoodRow w' s.2.2.2.1 (numsL 1 T.next.flatten) ∧ GoodRow w' s.2.2.2.2.1 (numsL 1 T.rule) ∧ GoodRow w' s.2.2.2.2.2.1 (numsL 0 T.terms) ∧ GoodZ w' s.2.2.2.2.2.2.1 T.goto.flatten ∧ GoodRow w' s.2.2.2.2.2.2.2.1 (numsL 1 T.goto.flatten) ∧ s.2.2.2.2.2.2.2.2.1 = Value.agg #[s.2.1, .slice (some ⟨gc, 0, none⟩) 256 cc, s.2.2.2.1, s.2.2.2.2.1, s.2.2.2.2.2.1, .slice AA BA.length cA, s.2.2.2.2.2.2.2.1, .slice Ab Bs.length cb] ∧ GoodP w5 w' s.2.2.2.2.2.2.2.2.2 ∧ True) ?_ ?_
  rotate_left
  · intro hJ29_30_35_36_40_43_47_48_50_51
    refine join_ (σ := Value × Value × Value × Value × Value × Value × Value × Value × Value × Value) 2 #[true, true, true, true, true, true, true, true, true, true, true, true, true, true, true, true, true, true, true, true, true, true, true, true, true, true, true, true, true, true, true, true, true, true, true, true, true, true, true, true, true, true, true, true, true, true, true, true, true, true, true, false, false] (fun s => [(108, s.1), (109, s.2.1), (114, s.2.2.1), (115, s.2.2.2.1), (119, s.2.2.2.2.1), (122, s.2.2.2.2.2.1), (126, s.2.2.2.2.2.2.1), (127, s.2.2.2.2.2.2.2.1), (129, s.2.2.2.2.2.2.2.2.1)]) (fun s w' => Below w5.heap.size w5 w' ∧ GoodZ w' s.1 (dimsL T) ∧ GoodRow w' s.2.1 (numsL 0 (dimsL T)) ∧ GoodZ w' s.2.2.1 T.next.flatten ∧ GoodRow w' s.2.2.2.1 (numsL 1 T.next.flatten) ∧ GoodRow w' s.2.2.2.2.1 (numsL 1 T.rule) ∧ GoodRow w' s.2.2.2.2.2.1 (numsL 0 T.terms) ∧ GoodZ w' s.2.2.2.2.2.2.1 T.goto.flatten ∧ GoodRow w' s.2.2.2.2.2.2.2.1 (numsL 1 T.goto.flatten) ∧ s.2.2.2.2.2.2.2.2.1 = Value.agg #[s.2.1, .slice (some ⟨gc, 0, none⟩) 256 cc, s.2.2.2.1, s.2.2.2.2.1, s.2.2.2.2.2.1, .slice AA BA.length cA, s.2.2.2.2.2.2.2.1, .slice Ab Bs.length cb] ∧ True) ?_ ?_
    rotate_left
    · intro hJ29_30_35_36_40_43_47_48_50
      refine join_ (σ := Value × Value × Value × Value × Value × Value × Value × Value × Value × Value) 2 #[true, true, true, true, true, true, true, true, true, true, true, true, true, true, true, true, true, true, true, true, true, true, true, true, true, true, true, true, true, true, true, true, true, true, true, true, true, true, true, true, true, true, true, true, true, true, true, true, true, true, false, true, false] (fun s => [(108, s.1), (109, s.2.1), (114, s.2.2.1), (115, s.2.2.2.1), (119, s.2.2.2.2.1), (122, s.2.2.2.2.2.1), (126, s.2.2.2.2.2.2.1), (127, s.2.2.2.2.2.2.2.1), (16, s.2.2.2.2.2.2.2.2.2)]) (fun s w' => Below w5.heap.size w5 w' ∧ GoodZ w' s.1 (dimsL T) ∧ GoodRow w' s.2.1 (numsL 0 (dimsL T)) ∧ GoodZ w' s.2.2.1 T.next.flatten ∧ GoodRow w' s.2.2.2.1 (numsL 1 T.next.flatten) ∧ GoodRow w' s.2.2.2.2.1 (numsL 1 T.rule) ∧ GoodRow w' s.2.2.2.2.2.1 (numsL 0 T.terms) ∧ GoodZ w' s.2.2.2.2.2.2.1 T.goto.flatten ∧ GoodRow w' s.2.2.2.2.2.2.2.1 (numsL 1 T.goto.flatten) ∧ GoodP w5 w' s.2.2.2.2.2.2.2.2.2 ∧ True) ?_ ?_
      rotate_left
      · intro hJ29_30_35_36_40_43_47_48_51
        refine join_ (σ := Value × Value × Value × Value × Value × Value × Value × Value × Value × Value) 3 #[true, true, true, true, true, true, true, true, true, true, true, true, true, true, true, true, true, true, true, true, true, true, true, true, true, true, true, true, true, true, true, true, true, true, true, true, true, true, true, true, true, true, true, true, true, true, true, true, true, true, false, false, false] (fun s => [(108, s.1), (109, s.2.1), (114, s.2.2.1), (115, s.2.2.2.1), (119, s.2.2.2.2.1), (122, s.2.2.2.2.2.1), (126, s.2.2.2.2.2.2.1), (127, s.2.2.2.2.2.2.2.1)]) (fun s w' => Below w5.heap.size w5 w' ∧ GoodZ w' s.1 (dimsL T) ∧ GoodRow w' s.2.1 (numsL 0 (dimsL T)) ∧ GoodZ w' s.2.2.1 T.next.flatten ∧ GoodRow w' s.2.2.2.1 (numsL 1 T.next.flatten) ∧ GoodRow w' s.2.2.2.2.1 (numsL 1 T.rule) ∧ GoodRow w' s.2.2.2.2.2.1 (numsL 0 T.terms) ∧ GoodZ w' s.2.2.2.2.2.2.1 T.goto.flatten ∧ GoodRow w' s.2.2.2.2.2.2.2.1 (numsL 1 T.goto.flatten) ∧ True) ?_ ?_
        rotate_left
        · intro hJ29_30_35_36_40_43_47_48
          refine join_ (σ := Value × Value × Value × Value × Value × Value × Value × Value × Value × Value) 3 #[true, true, true, true, true, true, true, true, true, true, true, true, true, true, true, true, true, true, true, true, true, true, true, true, true, true, true, true, true, true, true, true, true, true, true, true, true, true, true, true, true, true, true, true, true, true, true, true, false, true, false, true, false] (fun s => [(108, s.1), (109, s.2.1), (114, s.2.2.1), (115, s.2.2.2.1), (119, s.2.2.2.2.1), (122, s.2.2.2.2.2.1), (126, s.2.2.2.2.2.2.1), (16, s.2.2.2.2.2.2.2.2.2)]) (fun s w' => Below w5.heap.size w5 w' ∧ GoodZ w' s.1 (dimsL T) ∧ GoodRow w' s.2.1 (numsL 0 (dimsL T)) ∧ GoodZ w' s.2.2.1 T.next.flatten ∧ GoodRow w' s.2.2.2.1 (numsL 1 T.next.flatten) ∧ GoodRow w' s.2.2.2.2.1 (numsL 1 T.rule) ∧ GoodRow w' s.2.2.2.2.2.1 (numsL 0 T.terms) ∧ GoodZ w' s.2.2.2.2.2.2.1 T.goto.flatten ∧ GoodP w5 w' s.2.2.2.2.2.2.2.2.2 ∧ True) ?_ ?_
          rotate_left
          · intro hJ29_30_35_36_40_43_47_51
            refine join_ (σ := Value × Value × Value × Value × Value × Value × Value × Value × Value × Value) 4 #[true, true, true, true, true, true, true, true, true, true, true, true, true, true, true, true, true, true, true, true, true, true, true, true, true, true, true, true, true, true, true, true, true, true, true, true, true, true, true, true, true, true, true, true, true, true, true, true, false, true, false, false, false] (fun s => [(108, s.1), (109, s.2.1), (114, s.2.2.1), (115, s.2.2.2.1), (119, s.2.2.2.2.1), (122, s.2.2.2.2.2.1), (126, s.2.2.2.2.2.2.1)]) (fun s w' => Below w5.heap.size w5 w' ∧ GoodZ w' s.1 (dimsL T) ∧ GoodRow w' s.2.1 (numsL 0 (dimsL T)) ∧ GoodZ w' s.2.2.1 T.next.flatten ∧ GoodRow w' s.2.2.2.1 (numsL 1 T.next.flatten) ∧ GoodRow w' s.2.2.2.2.1 (numsL 1 T.rule) ∧ GoodRow w' s.2.2.2.2.2.1 (numsL 0 T.terms) ∧ GoodZ w' s.2.2.2.2.2.2.1 T.goto.flatten ∧ True) ?_ ?_
            rotate_left
            · intro hJ29_30_35_36_40_43_47
              refine join_ (σ := Value × Value × Value × Value × Value × Value × Value × Value × Value × Value) 4 #[true, true, true, true, true, true, true, true, true, true, true, true, true, true, true, true, true, true, true, true, true, true, true, true, true, true, true, true, true, true, true, true, true, true, true, true, true, true, true, true, true, true, true, true, true, true, true, false, false, true, false, true, false] (fun s => [(108, s.1), (109, s.2.1), (114, s.2.2.1), (115, s.2.2.2.1), (119, s.2.2.2.2.1), (122, s.2.2.2.2.2.1), (16, s.2.2.2.2.2.2.2.2.2)]) (fun s w' => Below w5.heap.size w5 w' ∧ GoodZ w' s.1 (dimsL T) ∧ GoodRow w' s.2.1 (numsL 0 (dimsL T)) ∧ GoodZ w' s.2.2.1 T.next.flatten ∧ GoodRow w' s.2.2.2.1 (numsL 1 T.next.flatten) ∧ GoodRow w' s.2.2.2.2.1 (numsL 1 T.rule) ∧ GoodRow w' s.2.2.2.2.2.1 (numsL 0 T.terms) ∧ GoodP w5 w' s.2.2.2.2.2.2.2.2.2 ∧ True) ?_ ?_
              rotate_left
              · intro hJ29_30_35_36_40_43_51
                refine join_ (σ := Value × Value × Value × Value × Value × Value × Value × Value × Value × Value) 5 #[true, true, true, true, true, true, true, true, true, true, true, true, true, true, true, true, true, true, true, true, true, true, true, true, true, true, true, true, true, true, true, true, true, true, true, true, true, true, true, true, true, true, true, true, true, true, true, false, false, true, false, false, false] (fun s => [(108, s.1), (109, s.2.1), (114, s.2.2.1), (115, s.2.2.2.1), (119, s.2.2.2.2.1), (122, s.2.2.2.2.2.1)]) (fun s w' => Below w5.heap.size w5 w' ∧ GoodZ w' s.1 (dimsL T) ∧ GoodRow w' s.2.1 (numsL 0 (dimsL T)) ∧ GoodZ w' s.2.2.1 T.next.flatten ∧ GoodRow w' s.2.2.2.1 (numsL 1 T.next.flatten) ∧ GoodRow w' s.2.2.2.2.1 (numsL 1 T.rule) ∧ GoodRow w' s.2.2.2.2.2.1 (numsL 0 T.terms) ∧ True) ?_ ?_
                rotate_left
                · intro hJ29_30_35_36_40_43
                  refine join_ (σ := Value × Value × Value × Value × Value × Value × Value × Value × Value × Value) 5 #[true, true, true, true, true, true, true, true, true, true, true, true, true, true, true, true, true, true, true, true, true, true, true, true, true, true, true, true, true, true, true, true, true, true, true, true, true, true, true, true, true, true, true, false, true, true, true, false, false, true, false, true, false] (fun s => [(108, s.1), (109, s.2.1), (114, s.2.2.1), (115, s.2.2.2.1), (119, s.2.2.2.2.1), (16, s.2.2.2.2.2.2.2.2.2)]) (fun s w' => Below w5.heap.size w5 w' ∧ GoodZ w' s.1 (dimsL T) ∧ GoodRow w' s.2.1 (numsL 0 (dimsL T)) ∧ GoodZ w' s.2.2.1 T.next.flatten ∧ GoodRow w' s.2.2.2.1 (numsL 1 T.next.flatten) ∧ GoodRow w' s.2.2.2.2.1 (numsL 1 T.rule) ∧ GoodP w5 w' s.2.2.2.2.2.2.2.2.2 ∧ True) ?_ ?_
                  rotate_left
                  · intro hJ29_30_35_36_40_51
                    refine join_ (σ := Value × Value × Value × Value × Value × Value × Value × Value × Value × Value) 6 #[true, true, true, true, true, true, true, true, true, true, true, true, true, true, true, true, true, true, true, true, true, true, true, true, true, true, true, true, true, true, true, true, true, true, true, true, true, true, true, true, true, true, true, false, true, true, true, false, false, true, false, false, false] (fun s => [(108, s.1), (109, s.2.1), (114, s.2.2.1), (115, s.2.2.2.1), (119, s.2.2.2.2.1)]) (fun s w' => Below w5.heap.size w5 w' ∧ GoodZ w' s.1 (dimsL T) ∧ GoodRow w' s.2.1 (numsL 0 (dimsL T)) ∧ GoodZ w' s.2.2.1 T.next.flatten ∧ GoodRow w' s.2.2.2.1 (numsL 1 T.next.flatten) ∧ GoodRow w' s.2.2.2.2.1 (numsL 1 T.rule) ∧ True) ?_ ?_
                    rotate_left
                    · intro hJ29_30_35_36_40
                      refine join_ (σ := Value × Value × Value × Value × Value × Value × Value × Value × Value × Value) 6 #[true, true, true, true, true, true, true, true, true, true, true, true, true, true, true, true, true, true, true, true, true, true, true, true, true, true, true, true, true, true, true, true, true, true, true, true, true, true, true, true, false, true, true, false, true, true, true, false, false, true, false, true, false] (fun s => [(108, s.1), (109, s.2.1), (114, s.2.2.1), (115, s.2.2.2.1), (16, s.2.2.2.2.2.2.2.2.2)]) (fun s w' => Below w5.heap.size w5 w' ∧ GoodZ w' s.1 (dimsL T) ∧ GoodRow w' s.2.1 (numsL 0 (dimsL T)) ∧ GoodZ w' s.2.2.1 T.next.flatten ∧ GoodRow w' s.2.2.2.1 (numsL 1 T.next.flatten) ∧ GoodP w5 w' s.2.2.2.2.2.2.2.2.2 ∧ True) ?_ ?_
                      rotate_left
                      · intro hJ29_30_35_36_51
                        refine join_ (σ := Value × Value × Value × Value × Value × Value × Value × Value × Value × Value) 7 #[true, true, true, true, true, true, true, true, true, true, true, true, true, true, true, true, true, true, true, true, true, true, true, true, true, true, true, true, true, true, true, true, true, true, true, true, true, true, true, true, false, true, true, false, true, true, true, false, false, true, false, false, false] (fun s => [(108, s.1), (109, s.2.1), (114, s.2.2.1), (115, s.2.2.2.1)]) (fun s w' => Below w5.heap.size w5 w' ∧ GoodZ w' s.1 (dimsL T) ∧ GoodRow w' s.2.1 (numsL 0 (dimsL T)) ∧ GoodZ w' s.2.2.1 T.next.flatten ∧ GoodRow w' s.2.2.2.1 (numsL 1 T.next.flatten) ∧ True) ?_ ?_
                        rotate_left
                        · intro hJ29_30_35_36
                          refine join_ (σ := Value × Value × Value × Value × Value × Value × Value × Value × Value × Value) 7 #[true, true, true, true, true, true, true, true, true, true, true, true, true, true, true, true, true, true, true, true, true, true, true, true, true, true, true, true, true, true, true, true, true, true, true, true, false, true, true, true, false, true, true, false, true, true, true, false, false, true, false, true, false] (fun s => [(108, s.1), (109, s.2.1), (114, s.2.2.1), (16, s.2.2.2.2.2.2.2.2.2)]) (fun s w' => Below w5.heap.size w5 w' ∧ GoodZ w' s.1 (dimsL T) ∧ GoodRow w' s.2.1 (numsL 0 (dimsL T)) ∧ GoodZ w' s.2.2.1 T.next.flatten ∧ GoodP w5 w' s.2.2.2.2.2.2.2.2.2 ∧ True) ?_ ?_
                          rotate_left
                          · intro hJ29_30_35_51
                            refine join_ (σ := Value × Value × Value × Value × Value × Value × Value × Value × Value × Value) 8 #[true, true, true, true, true, true, true, true, true, true, true, true, true, true, true, true, true, true, true, true, true, true, true, true, true, true, true, true, true, true, true, true, true, true, true, true, false, true, true, true, false, true, true, false, true, true, true, false, false, true, false, false, false] (fun s => [(108, s.1), (109, s.2.1), (114, s.2.2.1)]) (fun s w' => Below w5.heap.size w5 w' ∧ GoodZ w' s.1 (dimsL T) ∧ GoodRow w' s.2.1 (numsL 0 (dimsL T)) ∧ GoodZ w' s.2.2.1 T.next.flatten ∧ True) ?_ ?_
                            rotate_left
                            · intro hJ29_30_35
                              refine join_ (σ := Value × Value × Value × Value × Value × Value × Value × Value × Value × Value) 8 #[true, true, true, true, true, true, true, true, true, true, true, true, true, true, true, true, true, true, true, true, true, true, true, true, true, true, true, true, true, true, true, true, true, true, true, false, false, true, true, true, false, true, true, false, true, true, true, false, false, true, false, true, false] (fun s => [(108, s.1), (109, s.2.1), (16, s.2.2.2.2.2.2.2.2.2)]) (fun s w' => Below w5.heap.size w5 w' ∧ GoodZ w' s.1 (dimsL T) ∧ GoodRow w' s.2.1 (numsL 0 (dimsL T)) ∧ GoodP w5 w' s.2.2.2.2.2.2.2.2.2 ∧ True) ?_ ?_
                              rotate_left
                              · intro hJ29_30_51
                                refine join_ (σ := Value × Value × Value × Value × Value × Value × Value × Value × Value × Value) 9 #[true, true, true, true, true, true, true, true, true, true, true, true, true, true, true, true, true, true, true, true, true, true, true, true, true, true, true, true, true, true, true, true, true, true, true, false, false, true, true, true, false, true, true, false, true, true, true, false, false, true, false, false, false] (fun s => [(108, s.1), (109, s.2.1)]) (fun s w' => Below w5.heap.size w5 w' ∧ GoodZ w' s.1 (dimsL T) ∧ GoodRow w' s.2.1 (numsL 0 (dimsL T)) ∧ True) ?_ ?_
                                rotate_left
                                · intro hJ29_30
                                  refine join_ (σ := Value × Value × Value × Value × Value × Value × Value × Value × Value × Value) 9 #[true, true, true, true, true, true, true, true, true, true, true, true, true, true, true, true, true, true, true, true, true, true, true, true, true, true, true, true, true, true, false, true, true, true, true, false, false, true, true, true, false, true, true, false, true, true, true, false, false, true, false, true, false] (fun s => [(108, s.1), (16, s.2.2.2.2.2.2.2.2.2)]) (fun s w' => Below w5.heap.size w5 w' ∧ GoodZ w' s.1 (dimsL T) ∧ GoodP w5 w' s.2.2.2.2.2.2.2.2.2 ∧ True) ?_ ?_
                                  rotate_left
                                  · intro hJ29_51
                                    refine join_ (σ := Value × Value × Value × Value × Value × Value × Value × Value × Value × Value) 10 #[true, true, true, true, true, true, true, true, true, true, true, true, true, true, true, true, true, true, true, true, true, true, true, true, true, true, true, true, true, true, false, true, true, true, true, false, false, true, true, true, false, true, true, false, true, true, true, false, false, true, false, false, false] (fun s => [(108, s.1)]) (fun s w' => Below w5.heap.size w5 w' ∧ GoodZ w' s.1 (dimsL T) ∧ True) ?_ ?_
                                    rotate_left
                                    · intro hJ29
                                      refine join_ (σ := Value × Value × Value × Value × Value × Value × Value × Value × Value × Value) 10 #[true, true, true, true, true, true, true, true, true, true, true, true, true, true, true, true, true, true, true, true, true, true, true, true, true, true, true, true, true, false, false, true, true, true, true, false, false, true, true, true, false, true, true, false, true, true, true, false, false, true, false, true, false] (fun s => [(16, s.2.2.2.2.2.2.2.2.2)]) (fun s w' => Below w5.heap.size w5 w' ∧ GoodP w5 w' s.2.2.2.2.2.2.2.2.2 ∧ True) ?_ ?_
                                      rotate_left
                                      · intro hJ51
                                        refine two_ (i := 29) (j := 51) (Ni := some 108) (Nj := some 16) #[true, true, true, true, true, true, true, true, true, true, true, true, true, true, true, true, true, true, true, true, true, true, true, true, true, true, true, true, true, true, false, true, true, true, true, false, false, true, true, true, false, true, true, false, true, true, true, false, false, true, false, false, false] #[true, true, true, true, true, true, true, true, true, true, true, true, true, true, true, true, true, true, true, true, true, true, true, true, true, true, true, true, true, false, false, true, true, true, true, false, false, true, true, true, false, true, true, false, true, true, true, false, false, true, false, true, false] rfl rfl rfl rfl (by kernel_rfl) (by decide) (by decide) (fun K hK => ?_) (fun K hK => ?_)
                                        · skip
                                          refine Kd.R_lit_step (Kd.int .i64) (w0 := _) (N := 108) _ 3 (by rfl) rfl (xs := [(T.next.length : Int), (n1 : Int), (T.terms.length : Int), (T.action.length : Int), (tN T : Int), (nN T : Int), (T.left.length : Int)]) (inner := [.int .i64 (T.next.length : Int), .int .i64 (n1 : Int), .int .i64 (T.terms.length : Int), .int .i64 (T.action.length : Int), .int .i64 (tN T : Int), .int .i64 (nN T : Int), .int .i64 (T.left.length : Int)]) (ok := fun _ => True) (okp := fun _ => False) (by first | (go_simp; done) | (go_simp; rfl)) (Reps.one (show (Kd.int .i64).M _ _ _ (T.next.length : Int) [.int .i64 (T.next.length : Int)] from rfl) (Reps.one (show (Kd.int .i64).M _ _ _ (n1 : Int) [.int .i64 (n1 : Int)] from rfl) (Reps.one (show (Kd.int .i64).M _ _ _ (T.terms.length : Int) [.int .i64 (T.terms.length : Int)] from rfl) (Reps.one (show (Kd.int .i64).M _ _ _ (T.action.length : Int) [.int .i64 (T.action.length : Int)] from rfl) (Reps.one (show (Kd.int .i64).M _ _ _ (tN T : Int) [.int .i64 (tN T : Int)] from rfl) (Reps.one (show (Kd.int .i64).M _ _ _ (nN T : Int) [.int .i64 (nN T : Int)] from rfl) (Reps.one (show (Kd.int .i64).M _ _ _ (T.left.length : Int) [.int .i64 (T.left.length : Int)] from rfl) (Reps.none _ _)))))))) (fun _ h => h.elim) trivial (Below.refl _ _) (Nat.le_refl _) (by simp) ?_
                                          intro v7 w7 hR7 hb7 _ _
                                          rw [show [(T.next.length : Int), (n1 : Int), (T.terms.length : Int), (T.action.length : Int), (tN T : Int), (nN T : Int), (T.left.length : Int)] = dimsL T from by unfold dimsL; rw [HN1.out]] at hR7
                                          have hb8 := below_step (Below.refl w5.heap.size w5) hb7
                                          have g7 := GoodZ.of hR7
                                          refine hK.out _ _ ((hBF.below hb8)) (fun hHeld => ?_)
                                          clear hK K
                                          refine norm_ (a' := ?_) ?_ ?_
                                          rotate_left
                                          · show Act.put _ (some 108) _ = _
                                            simp only [Act.put, List.setIfInBounds_toArray, List.set_cons_zero, List.set_cons_succ, i64_w, i32_w]
                                            rfl
                                          exact norm_ (by first | (simp only [putAll, Act.put, List.setIfInBounds_toArray, List.set_cons_zero, List.set_cons_succ]; done) | (simp only [putAll, Act.put, List.setIfInBounds_toArray, List.set_cons_zero, List.set_cons_succ]; rfl)) (hJ29 (v7, .bool false, .bool false, .bool false, .bool false, .bool false, .bool false, .bool false, .bool false, .bool false) _ ⟨hb8, g7, trivial⟩)
                                        skip
                                        refine value_ (w1 := w5.alloc (.cells Z8 61 (0, 0))) (v := .pointer (some ⟨w5.heap.size, 0, none⟩)) (by rfl) rfl ?_ ?_
                                        · (first | (go_simp; done) | (go_simp; rfl))
                                        have hnew := blk_new w5 (.cells Z8 61 (0, 0))
                                        have hb7 := below_alloc (Below.refl w5.heap.size w5) (.cells Z8 61 (0, 0))
                                        generalize w5.alloc (.cells Z8 61 (0, 0)) = w7 at hnew hb7 ⊢
                                        obtain ⟨ga, hga⟩ : ∃ ga, ga = w5.heap.size := ⟨_, rfl⟩
                                        have hsz : w5.heap.size ≤ ga := by rw [hga]; exact (Below.refl w5.heap.size w5).size
                                        rw [← hga] at hnew ⊢
                                        clear hga
                                        have hb8 := below_step (Below.refl w5.heap.size w5) hb7
                                        have g7 := (show GoodP w5 w7 (.pointer (some ⟨ga, 0, none⟩)) from ⟨ga, rfl, hsz, hnew⟩)
                                        refine hK.out _ _ ((hBF.below hb8)) (fun hHeld => ?_)
                                        clear hK K
                                        refine norm_ (a' := ?_) ?_ ?_
                                        rotate_left
                                        · show Act.put _ (some 16) _ = _
                                          simp only [Act.put, List.setIfInBounds_toArray, List.set_cons_zero, List.set_cons_succ, i64_w, i32_w]
                                          rfl
                                        exact norm_ (by first | (simp only [putAll, Act.put, List.setIfInBounds_toArray, List.set_cons_zero, List.set_cons_succ]; done) | (simp only [putAll, Act.put, List.setIfInBounds_toArray, List.set_cons_zero, List.set_cons_succ]; rfl)) (hJ51 (.bool false, .bool false, .bool false, .bool false, .bool false, .bool false, .bool false, .bool false, .bool false, .pointer (some ⟨ga, 0, none⟩)) _ ⟨hb8, g7, trivial⟩)
                                      skip
                                      rintro ⟨x29, x30, x35, x36, x40, x43, x47, x48, x50, x51⟩ w6 ⟨hb6, g51, _⟩
                                      dsimp only at g51
                                      have hHeld := hBF.below hb6
                                      refine norm_ (a' := ?_) ?_ ?_
                                      rotate_left
                                      · simp only [putAll, Act.put, List.setIfInBounds_toArray, List.set_cons_zero, List.set_cons_succ]
                                        rfl
                                      refine one_ (i := 29) (N := some 108) #[true, true, true, true, true, true, true, true, true, true, true, true, true, true, true, true, true, true, true, true, true, true, true, true, true, true, true, true, true, true, false, true, true, true, true, false, false, true, true, true, false, true, true, false, true, true, true, false, false, true, false, true, false] rfl rfl (by kernel_rfl) (by decide) (fun K hK => ?_)
                                      refine Kd.R_lit_step (Kd.int .i64) (w0 := _) (N := 108) _ 3 (by rfl) rfl (xs := [(T.next.length : Int), (n1 : Int), (T.terms.length : Int), (T.action.length : Int), (tN T : Int), (nN T : Int), (T.left.length : Int)]) (inner := [.int .i64 (T.next.length : Int), .int .i64 (n1 : Int), .int .i64 (T.terms.length : Int), .int .i64 (T.action.length : Int), .int .i64 (tN T : Int), .int .i64 (nN T : Int), .int .i64 (T.left.length : Int)]) (ok := fun _ => True) (okp := fun _ => False) (by first | (go_simp; done) | (go_simp; rfl)) (Reps.one (show (Kd.int .i64).M _ _ _ (T.next.length : Int) [.int .i64 (T.next.length : Int)] from rfl) (Reps.one (show (Kd.int .i64).M _ _ _ (n1 : Int) [.int .i64 (n1 : Int)] from rfl) (Reps.one (show (Kd.int .i64).M _ _ _ (T.terms.length : Int) [.int .i64 (T.terms.length : Int)] from rfl) (Reps.one (show (Kd.int .i64).M _ _ _ (T.action.length : Int) [.int .i64 (T.action.length : Int)] from rfl) (Reps.one (show (Kd.int .i64).M _ _ _ (tN T : Int) [.int .i64 (tN T : Int)] from rfl) (Reps.one (show (Kd.int .i64).M _ _ _ (nN T : Int) [.int .i64 (nN T : Int)] from rfl) (Reps.one (show (Kd.int .i64).M _ _ _ (T.left.length : Int) [.int .i64 (T.left.length : Int)] from rfl) (Reps.none _ _)))))))) (fun _ h => h.elim) trivial (Below.refl _ _) (Nat.le_refl _) (by simp) ?_
                                      intro v7 w7 hR7 hb7 _ _
                                      rw [show [(T.next.length : Int), (n1 : Int), (T.terms.length : Int), (T.action.length : Int), (tN T : Int), (nN T : Int), (T.left.length : Int)] = dimsL T from by unfold dimsL; rw [HN1.out]] at hR7
                                      have hb8 := below_step hb6 hb7
                                      have g7 := GoodZ.of hR7
                                      have n51 := g51.below hb7
                                      refine hK.out _ _ ((hBF.below hb8)) (fun hHeld => ?_)
                                      clear hK K
                                      refine norm_ (a' := ?_) ?_ ?_
                                      rotate_left
                                      · show Act.put _ (some 108) _ = _
                                        simp only [Act.put, List.setIfInBounds_toArray, List.set_cons_zero, List.set_cons_succ, i64_w, i32_w]
                                        rfl
                                      exact norm_ (by first | (simp only [putAll, Act.put, List.setIfInBounds_toArray, List.set_cons_zero, List.set_cons_succ]; done) | (simp only [putAll, Act.put, List.setIfInBounds_toArray, List.set_cons_zero, List.set_cons_succ]; rfl)) (hJ29_51 (v7, .bool false, .bool false, .bool false, .bool false, .bool false, .bool false, .bool false, .bool false, x51) _ ⟨hb8, g7, n51, trivial⟩)
                                    skip
                                    rintro ⟨x29, x30, x35, x36, x40, x43, x47, x48, x50, x51⟩ w6 ⟨hb6, g29, _⟩
                                    dsimp only at g29
                                    have hHeld := hBF.below hb6
                                    refine norm_ (a' := ?_) ?_ ?_
                                    rotate_left
                                    · simp only [putAll, Act.put, List.setIfInBounds_toArray, List.set_cons_zero, List.set_cons_succ]
                                      rfl
                                    refine two_ (i := 30) (j := 51) (Ni := some 109) (Nj := some 16) #[true, true, true, true, true, true, true, true, true, true, true, true, true, true, true, true, true, true, true, true, true, true, true, true, true, true, true, true, true, true, true, true, true, true, true, false, false, true, true, true, false, true, true, false, true, true, true, false, false, true, false, false, false] #[true, true, true, true, true, true, true, true, true, true, true, true, true, true, true, true, true, true, true, true, true, true, true, true, true, true, true, true, true, true, false, true, true, true, true, false, false, true, true, true, false, true, true, false, true, true, true, false, false, true, false, true, false] rfl rfl rfl rfl (by kernel_rfl) (by decide) (by decide) (fun K hK => ?_) (fun K hK => ?_)
                                    · skip
                                      obtain ⟨a29, q29, e_, h29, C29⟩ := id g29
                                      subst e_
                                      refine goes_ Try.func23 (by kernel_rfl) rfl #[.int .i64 0, .slice a29 (dimsL T).length q29] (by rfl) rfl rfl (by simp only [List.map_toArray, List.map_cons, List.map_nil]; rfl) ?_
                                      with_reducible refine (nums_n 0 (by decide) (dimsL T) HFD.out a29 (dimsL T).length q29 _ rfl (by first | (have := HFD.out; omega) | (simp [dimsL]; done)) C29 h29).mono ?_
                                      rintro e w7 ⟨v7, rfl, hR7, hb7⟩
                                      refine ⟨_, rfl, ?_⟩
                                      have hb8 := below_step hb6 hb7
                                      have g7 := GoodRow.of hR7
                                      have n29 := g29.below hb7
                                      refine hK.out _ _ ((hBF.below hb8)) (fun hHeld => ?_)
                                      clear hK K
                                      refine norm_ (a' := ?_) ?_ ?_
                                      rotate_left
                                      · show Act.put _ (some 109) _ = _
                                        simp only [Act.put, List.setIfInBounds_toArray, List.set_cons_zero, List.set_cons_succ, i64_w, i32_w]
                                        rfl
                                      exact norm_ (by first | (simp only [putAll, Act.put, List.setIfInBounds_toArray, List.set_cons_zero, List.set_cons_succ]; done) | (simp only [putAll, Act.put, List.setIfInBounds_toArray, List.set_cons_zero, List.set_cons_succ]; rfl)) (hJ29_30 (.slice a29 (dimsL T).length q29, v7, .bool false, .bool false, .bool false, .bool false, .bool false, .bool false, .bool false, .bool false) _ ⟨hb8, n29, g7, trivial⟩)
                                    skip
                                    refine value_ (w1 := w6.alloc (.cells Z8 61 (0, 0))) (v := .pointer (some ⟨w6.heap.size, 0, none⟩)) (by rfl) rfl ?_ ?_
                                    · (first | (go_simp; done) | (go_simp; rfl))
                                    have hnew := blk_new w6 (.cells Z8 61 (0, 0))
                                    have hb7 := below_alloc (Below.refl w6.heap.size w6) (.cells Z8 61 (0, 0))
                                    generalize w6.alloc (.cells Z8 61 (0, 0)) = w7 at hnew hb7 ⊢
                                    obtain ⟨ga, hga⟩ : ∃ ga, ga = w6.heap.size := ⟨_, rfl⟩
                                    have hsz : w5.heap.size ≤ ga := by rw [hga]; exact hb6.size
                                    rw [← hga] at hnew ⊢
                                    clear hga
                                    have hb8 := below_step hb6 hb7
                                    have g7 := (show GoodP w5 w7 (.pointer (some ⟨ga, 0, none⟩)) from ⟨ga, rfl, hsz, hnew⟩)
                                    have n29 := g29.below hb7
                                    refine hK.out _ _ ((hBF.below hb8)) (fun hHeld => ?_)
                                    clear hK K
                                    refine norm_ (a' := ?_) ?_ ?_
                                    rotate_left
                                    · show Act.put _ (some 16) _ = _
                                      simp only [Act.put, List.setIfInBounds_toArray, List.set_cons_zero, List.set_cons_succ, i64_w, i32_w]
                                      rfl
                                    exact norm_ (by first | (simp only [putAll, Act.put, List.setIfInBounds_toArray, List.set_cons_zero, List.set_cons_succ]; done) | (simp only [putAll, Act.put, List.setIfInBounds_toArray, List.set_cons_zero, List.set_cons_succ]; rfl)) (hJ29_51 (x29, .bool false, .bool false, .bool false, .bool false, .bool false, .bool false, .bool false, .bool false, .pointer (some ⟨ga, 0, none⟩)) _ ⟨hb8, n29, g7, trivial⟩)
                                  skip
                                  rintro ⟨x29, x30, x35, x36, x40, x43, x47, x48, x50, x51⟩ w6 ⟨hb6, g29, g51, _⟩
                                  dsimp only at g29 g51
                                  have hHeld := hBF.below hb6
                                  refine norm_ (a' := ?_) ?_ ?_
                                  rotate_left
                                  · simp only [putAll, Act.put, List.setIfInBounds_toArray, List.set_cons_zero, List.set_cons_succ]
                                    rfl
                                  refine one_ (i := 30) (N := some 109) #[true, true, true, true, true, true, true, true, true, true, true, true, true, true, true, true, true, true, true, true, true, true, true, true, true, true, true, true, true, true, true, true, true, true, true, false, false, true, true, true, false, true, true, false, true, true, true, false, false, true, false, true, false] rfl rfl (by kernel_rfl) (by decide) (fun K hK => ?_)
                                  obtain ⟨a29, q29, e_, h29, C29⟩ := id g29
                                  subst e_
                                  refine goes_ Try.func23 (by kernel_rfl) rfl #[.int .i64 0, .slice a29 (dimsL T).length q29] (by rfl) rfl rfl (by simp only [List.map_toArray, List.map_cons, List.map_nil]; rfl) ?_
                                  with_reducible refine (nums_n 0 (by decide) (dimsL T) HFD.out a29 (dimsL T).length q29 _ rfl (by first | (have := HFD.out; omega) | (simp [dimsL]; done)) C29 h29).mono ?_
                                  rintro e w7 ⟨v7, rfl, hR7, hb7⟩
                                  refine ⟨_, rfl, ?_⟩
                                  have hb8 := below_step hb6 hb7
                                  have g7 := GoodRow.of hR7
                                  have n29 := g29.below hb7
                                  have n51 := g51.below hb7
                                  refine hK.out _ _ ((hBF.below hb8)) (fun hHeld => ?_)
                                  clear hK K
                                  refine norm_ (a' := ?_) ?_ ?_
                                  rotate_left
                                  · show Act.put _ (some 109) _ = _
                                    simp only [Act.put, List.setIfInBounds_toArray, List.set_cons_zero, List.set_cons_succ, i64_w, i32_w]
                                    rfl
                                  exact norm_ (by first | (simp only [putAll, Act.put, List.setIfInBounds_toArray, List.set_cons_zero, List.set_cons_succ]; done) | (simp only [putAll, Act.put, List.setIfInBounds_toArray, List.set_cons_zero, List.set_cons_succ]; rfl)) (hJ29_30_51 (.slice a29 (dimsL T).length q29, v7, .bool false, .bool false, .bool false, .bool false, .bool false, .bool false, .bool false, x51) _ ⟨hb8, n29, g7, n51, trivial⟩)
                                skip
                                rintro ⟨x29, x30, x35, x36, x40, x43, x47, x48, x50, x51⟩ w6 ⟨hb6, g29, g30, _⟩
                                dsimp only at g29 g30
                                have hHeld := hBF.below hb6
                                refine norm_ (a' := ?_) ?_ ?_
                                rotate_left
                                · simp only [putAll, Act.put, List.setIfInBounds_toArray, List.set_cons_zero, List.set_cons_succ]
                                  rfl
                                refine two_ (i := 35) (j := 51) (Ni := some 114) (Nj := some 16) #[true, true, true, true, true, true, true, true, true, true, true, true, true, true, true, true, true, true, true, true, true, true, true, true, true, true, true, true, true, true, true, true, true, true, true, true, false, true, true, true, false, true, true, false, true, true, true, false, false, true, false, false, false] #[true, true, true, true, true, true, true, true, true, true, true, true, true, true, true, true, true, true, true, true, true, true, true, true, true, true, true, true, true, true, true, true, true, true, true, false, false, true, true, true, false, true, true, false, true, true, true, false, false, true, false, true, false] rfl rfl rfl rfl (by kernel_rfl) (by decide) (by decide) (fun K hK => ?_) (fun K hK => ?_)
                                · skip
                                  refine goes_ Try.func25 (by kernel_rfl) rfl #[.slice (some ad1) T.next.length p.c1] (by rfl) rfl rfl (by simp only [List.map_toArray, List.map_cons, List.map_nil]; rfl) ?_
                                  with_reducible refine (concat_n T.next (some ad1) T.next.length p.c1 _ rfl (by have := HD.out.n2; omega) (by have := HFN.out.2; omega) (HCN.out _ hb6) HT0.out.l1).mono ?_
                                  rintro e w7 ⟨v7, rfl, hR7, hb7⟩
                                  refine ⟨_, rfl, ?_⟩
                                  have hb8 := below_step hb6 hb7
                                  have g7 := GoodZ.of hR7
                                  have n29 := g29.below hb7
                                  have n30 := g30.below hb7
                                  refine hK.out _ _ ((hBF.below hb8)) (fun hHeld => ?_)
                                  clear hK K
                                  refine norm_ (a' := ?_) ?_ ?_
                                  rotate_left
                                  · show Act.put _ (some 114) _ = _
                                    simp only [Act.put, List.setIfInBounds_toArray, List.set_cons_zero, List.set_cons_succ, i64_w, i32_w]
                                    rfl
                                  exact norm_ (by first | (simp only [putAll, Act.put, List.setIfInBounds_toArray, List.set_cons_zero, List.set_cons_succ]; done) | (simp only [putAll, Act.put, List.setIfInBounds_toArray, List.set_cons_zero, List.set_cons_succ]; rfl)) (hJ29_30_35 (x29, x30, v7, .bool false, .bool false, .bool false, .bool false, .bool false, .bool false, .bool false) _ ⟨hb8, n29, n30, g7, trivial⟩)
                                skip
                                refine value_ (w1 := w6.alloc (.cells Z8 61 (0, 0))) (v := .pointer (some ⟨w6.heap.size, 0, none⟩)) (by rfl) rfl ?_ ?_
                                · (first | (go_simp; done) | (go_simp; rfl))
                                have hnew := blk_new w6 (.cells Z8 61 (0, 0))
                                have hb7 := below_alloc (Below.refl w6.heap.size w6) (.cells Z8 61 (0, 0))
                                generalize w6.alloc (.cells Z8 61 (0, 0)) = w7 at hnew hb7 ⊢
                                obtain ⟨ga, hga⟩ : ∃ ga, ga = w6.heap.size := ⟨_, rfl⟩
                                have hsz : w5.heap.size ≤ ga := by rw [hga]; exact hb6.size
                                rw [← hga] at hnew ⊢
                                clear hga
                                have hb8 := below_step hb6 hb7
                                have g7 := (show GoodP w5 w7 (.pointer (some ⟨ga, 0, none⟩)) from ⟨ga, rfl, hsz, hnew⟩)
                                have n29 := g29.below hb7
                                have n30 := g30.below hb7
                                refine hK.out _ _ ((hBF.below hb8)) (fun hHeld => ?_)
                                clear hK K
                                refine norm_ (a' := ?_) ?_ ?_
                                rotate_left
                                · show Act.put _ (some 16) _ = _
                                  simp only [Act.put, List.setIfInBounds_toArray, List.set_cons_zero, List.set_cons_succ, i64_w, i32_w]
                                  rfl
                                exact norm_ (by first | (simp only [putAll, Act.put, List.setIfInBounds_toArray, List.set_cons_zero, List.set_cons_succ]; done) | (simp only [putAll, Act.put, List.setIfInBounds_toArray, List.set_cons_zero, List.set_cons_succ]; rfl)) (hJ29_30_51 (x29, x30, .bool false, .bool false, .bool false, .bool false, .bool false, .bool false, .bool false, .pointer (some ⟨ga, 0, none⟩)) _ ⟨hb8, n29, n30, g7, trivial⟩)
                              skip
                              rintro ⟨x29, x30, x35, x36, x40, x43, x47, x48, x50, x51⟩ w6 ⟨hb6, g29, g30, g51, _⟩
                              dsimp only at g29 g30 g51
                              have hHeld := hBF.below hb6
                              refine norm_ (a' := ?_) ?_ ?_
                              rotate_left
                              · simp only [putAll, Act.put, List.setIfInBounds_toArray, List.set_cons_zero, List.set_cons_succ]
                                rfl
                              refine one_ (i := 35) (N := some 114) #[true, true, true, true, true, true, true, true, true, true, true, true, true, true, true, true, true, true, true, true, true, true, true, true, true, true, true, true, true, true, true, true, true, true, true, true, false, true, true, true, false, true, true, false, true, true, true, false, false, true, false, true, false] rfl rfl (by kernel_rfl) (by decide) (fun K hK => ?_)
                              refine goes_ Try.func25 (by kernel_rfl) rfl #[.slice (some ad1) T.next.length p.c1] (by rfl) rfl rfl (by simp only [List.map_toArray, List.map_cons, List.map_nil]; rfl) ?_
                              with_reducible refine (concat_n T.next (some ad1) T.next.length p.c1 _ rfl (by have := HD.out.n2; omega) (by have := HFN.out.2; omega) (HCN.out _ hb6) HT0.out.l1).mono ?_
                              rintro e w7 ⟨v7, rfl, hR7, hb7⟩
                              refine ⟨_, rfl, ?_⟩
                              have hb8 := below_step hb6 hb7
                              have g7 := GoodZ.of hR7
                              have n29 := g29.below hb7
                              have n30 := g30.below hb7
                              have n51 := g51.below hb7
                              refine hK.out _ _ ((hBF.below hb8)) (fun hHeld => ?_)
                              clear hK K
                              refine norm_ (a' := ?_) ?_ ?_
                              rotate_left
                              · show Act.put _ (some 114) _ = _
                                simp only [Act.put, List.setIfInBounds_toArray, List.set_cons_zero, List.set_cons_succ, i64_w, i32_w]
                                rfl
                              exact norm_ (by first | (simp only [putAll, Act.put, List.setIfInBounds_toArray, List.set_cons_zero, List.set_cons_succ]; done) | (simp only [putAll, Act.put, List.setIfInBounds_toArray, List.set_cons_zero, List.set_cons_succ]; rfl)) (hJ29_30_35_51 (x29, x30, v7, .bool false, .bool false, .bool false, .bool false, .bool false, .bool false, x51) _ ⟨hb8, n29, n30, g7, n51, trivial⟩)
                            skip
                            rintro ⟨x29, x30, x35, x36, x40, x43, x47, x48, x50, x51⟩ w6 ⟨hb6, g29, g30, g35, _⟩
                            dsimp only at g29 g30 g35
                            have hHeld := hBF.below hb6
                            refine norm_ (a' := ?_) ?_ ?_
                            rotate_left
                            · simp only [putAll, Act.put, List.setIfInBounds_toArray, List.set_cons_zero, List.set_cons_succ]
                              rfl
                            refine two_ (i := 36) (j := 51) (Ni := some 115) (Nj := some 16) #[true, true, true, true, true, true, true, true, true, true, true, true, true, true, true, true, true, true, true, true, true, true, true, true, true, true, true, true, true, true, true, true, true, true, true, true, true, true, true, true, false, true, true, false, true, true, true, false, false, true, false, false, false] #[true, true, true, true, true, true, true, true, true, true, true, true, true, true, true, true, true, true, true, true, true, true, true, true, true, true, true, true, true, true, true, true, true, true, true, true, false, true, true, true, false, true, true, false, true, true, true, false, false, true, false, true, false] rfl rfl rfl rfl (by kernel_rfl) (by decide) (by decide) (fun K hK => ?_) (fun K hK => ?_)
                            · skip
                              obtain ⟨a35, q35, e_, h35, C35⟩ := id g35
                              subst e_
                              refine goes_ Try.func23 (by kernel_rfl) rfl #[.int .i64 1, .slice a35 (T.next.flatten).length q35] (by rfl) rfl rfl (by simp only [List.map_toArray, List.map_cons, List.map_nil]; rfl) ?_
                              with_reducible refine (nums_n 1 (by decide) (T.next.flatten) HFN.out.1 a35 (T.next.flatten).length q35 _ rfl (by first | (have := HFN.out.2; omega) | (simp [dimsL]; done)) C35 h35).mono ?_
                              rintro e w7 ⟨v7, rfl, hR7, hb7⟩
                              refine ⟨_, rfl, ?_⟩
                              have hb8 := below_step hb6 hb7
                              have g7 := GoodRow.of hR7
                              have n29 := g29.below hb7
                              have n30 := g30.below hb7
                              have n35 := g35.below hb7
                              refine hK.out _ _ ((hBF.below hb8)) (fun hHeld => ?_)
                              clear hK K
                              refine norm_ (a' := ?_) ?_ ?_
                              rotate_left
                              · show Act.put _ (some 115) _ = _
                                simp only [Act.put, List.setIfInBounds_toArray, List.set_cons_zero, List.set_cons_succ, i64_w, i32_w]
                                rfl
                              exact norm_ (by first | (simp only [putAll, Act.put, List.setIfInBounds_toArray, List.set_cons_zero, List.set_cons_succ]; done) | (simp only [putAll, Act.put, List.setIfInBounds_toArray, List.set_cons_zero, List.set_cons_succ]; rfl)) (hJ29_30_35_36 (x29, x30, .slice a35 (T.next.flatten).length q35, v7, .bool false, .bool false, .bool false, .bool false, .bool false, .bool false) _ ⟨hb8, n29, n30, n35, g7, trivial⟩)
                            skip
                            refine value_ (w1 := w6.alloc (.cells Z8 61 (0, 0))) (v := .pointer (some ⟨w6.heap.size, 0, none⟩)) (by rfl) rfl ?_ ?_
                            · (first | (go_simp; done) | (go_simp; rfl))
                            have hnew := blk_new w6 (.cells Z8 61 (0, 0))
                            have hb7 := below_alloc (Below.refl w6.heap.size w6) (.cells Z8 61 (0, 0))
                            generalize w6.alloc (.cells Z8 61 (0, 0)) = w7 at hnew hb7 ⊢
                            obtain ⟨ga, hga⟩ : ∃ ga, ga = w6.heap.size := ⟨_, rfl⟩
                            have hsz : w5.heap.size ≤ ga := by rw [hga]; exact hb6.size
                            rw [← hga] at hnew ⊢
                            clear hga
                            have hb8 := below_step hb6 hb7
                            have g7 := (show GoodP w5 w7 (.pointer (some ⟨ga, 0, none⟩)) from ⟨ga, rfl, hsz, hnew⟩)
                            have n29 := g29.below hb7
                            have n30 := g30.below hb7
                            have n35 := g35.below hb7
                            refine hK.out _ _ ((hBF.below hb8)) (fun hHeld => ?_)
                            clear hK K
                            refine norm_ (a' := ?_) ?_ ?_
                            rotate_left
                            · show Act.put _ (some 16) _ = _
                              simp only [Act.put, List.setIfInBounds_toArray, List.set_cons_zero, List.set_cons_succ, i64_w, i32_w]
                              rfl
                            exact norm_ (by first | (simp only [putAll, Act.put, List.setIfInBounds_toArray, List.set_cons_zero, List.set_cons_succ]; done) | (simp only [putAll, Act.put, List.setIfInBounds_toArray, List.set_cons_zero, List.set_cons_succ]; rfl)) (hJ29_30_35_51 (x29, x30, x35, .bool false, .bool false, .bool false, .bool false, .bool false, .bool false, .pointer (some ⟨ga, 0, none⟩)) _ ⟨hb8, n29, n30, n35, g7, trivial⟩)
                          skip
                          rintro ⟨x29, x30, x35, x36, x40, x43, x47, x48, x50, x51⟩ w6 ⟨hb6, g29, g30, g35, g51, _⟩
                          dsimp only at g29 g30 g35 g51
                          have hHeld := hBF.below hb6
                          refine norm_ (a' := ?_) ?_ ?_
                          rotate_left
                          · simp only [putAll, Act.put, List.setIfInBounds_toArray, List.set_cons_zero, List.set_cons_succ]
                            rfl
                          refine one_ (i := 36) (N := some 115) #[true, true, true, true, true, true, true, true, true, true, true, true, true, true, true, true, true, true, true, true, true, true, true, true, true, true, true, true, true, true, true, true, true, true, true, true, true, true, true, true, false, true, true, false, true, true, true, false, false, true, false, true, false] rfl rfl (by kernel_rfl) (by decide) (fun K hK => ?_)
                          obtain ⟨a35, q35, e_, h35, C35⟩ := id g35
                          subst e_
                          refine goes_ Try.func23 (by kernel_rfl) rfl #[.int .i64 1, .slice a35 (T.next.flatten).length q35] (by rfl) rfl rfl (by simp only [List.map_toArray, List.map_cons, List.map_nil]; rfl) ?_
                          with_reducible refine (nums_n 1 (by decide) (T.next.flatten) HFN.out.1 a35 (T.next.flatten).length q35 _ rfl (by first | (have := HFN.out.2; omega) | (simp [dimsL]; done)) C35 h35).mono ?_
                          rintro e w7 ⟨v7, rfl, hR7, hb7⟩
                          refine ⟨_, rfl, ?_⟩
                          have hb8 := below_step hb6 hb7
                          have g7 := GoodRow.of hR7
                          have n29 := g29.below hb7
                          have n30 := g30.below hb7
                          have n35 := g35.below hb7
                          have n51 := g51.below hb7
                          refine hK.out _ _ ((hBF.below hb8)) (fun hHeld => ?_)
                          clear hK K
                          refine norm_ (a' := ?_) ?_ ?_
                          rotate_left
                          · show Act.put _ (some 115) _ = _
                            simp only [Act.put, List.setIfInBounds_toArray, List.set_cons_zero, List.set_cons_succ, i64_w, i32_w]
                            rfl
                          exact norm_ (by first | (simp only [putAll, Act.put, List.setIfInBounds_toArray, List.set_cons_zero, List.set_cons_succ]; done) | (simp only [putAll, Act.put, List.setIfInBounds_toArray, List.set_cons_zero, List.set_cons_succ]; rfl)) (hJ29_30_35_36_51 (x29, x30, .slice a35 (T.next.flatten).length q35, v7, .bool false, .bool false, .bool false, .bool false, .bool false, x51) _ ⟨hb8, n29, n30, n35, g7, n51, trivial⟩)
                        skip
                        rintro ⟨x29, x30, x35, x36, x40, x43, x47, x48, x50, x51⟩ w6 ⟨hb6, g29, g30, g35, g36, _⟩
                        dsimp only at g29 g30 g35 g36
                        have hHeld := hBF.below hb6
                        refine norm_ (a' := ?_) ?_ ?_
                        rotate_left
                        · simp only [putAll, Act.put, List.setIfInBounds_toArray, List.set_cons_zero, List.set_cons_succ]
                          rfl
                        refine two_ (i := 40) (j := 51) (Ni := some 119) (Nj := some 16) #[true, true, true, true, true, true, true, true, true, true, true, true, true, true, true, true, true, true, true, true, true, true, true, true, true, true, true, true, true, true, true, true, true, true, true, true, true, true, true, true, true, true, true, false, true, true, true, false, false, true, false, false, false] #[true, true, true, true, true, true, true, true, true, true, true, true, true, true, true, true, true, true, true, true, true, true, true, true, true, true, true, true, true, true, true, true, true, true, true, true, true, true, true, true, false, true, true, false, true, true, true, false, false, true, false, true, false] rfl rfl rfl rfl (by kernel_rfl) (by decide) (by decide) (fun K hK => ?_) (fun K hK => ?_)
                        · skip
                          refine goes_ Try.func23 (by kernel_rfl) rfl #[.int .i64 1, .slice p.a2 T.rule.length p.c2] (by rfl) rfl rfl (by simp only [List.map_toArray, List.map_cons, List.map_nil]; rfl) ?_
                          with_reducible refine (nums_n 1 (by decide) T.rule HFR.out p.a2 T.rule.length p.c2 _ rfl (by have := HD.out.n2; have := HD.out.u; omega) (HT0.out.below (below_step hB5 hb6)).r2 HT0.out.l2).mono ?_
                          rintro e w7 ⟨v7, rfl, hR7, hb7⟩
                          refine ⟨_, rfl, ?_⟩
                          have hb8 := below_step hb6 hb7
                          have g7 := GoodRow.of hR7
                          have n29 := g29.below hb7
                          have n30 := g30.below hb7
                          have n35 := g35.below hb7
                          have n36 := g36.below hb7
                          refine hK.out _ _ ((hBF.below hb8)) (fun hHeld => ?_)
                          clear hK K
                          refine norm_ (a' := ?_) ?_ ?_
                          rotate_left
                          · show Act.put _ (some 119) _ = _
                            simp only [Act.put, List.setIfInBounds_toArray, List.set_cons_zero, List.set_cons_succ, i64_w, i32_w]
                            rfl
                          exact norm_ (by first | (simp only [putAll, Act.put, List.setIfInBounds_toArray, List.set_cons_zero, List.set_cons_succ]; done) | (simp only [putAll, Act.put, List.setIfInBounds_toArray, List.set_cons_zero, List.set_cons_succ]; rfl)) (hJ29_30_35_36_40 (x29, x30, x35, x36, v7, .bool false, .bool false, .bool false, .bool false, .bool false) _ ⟨hb8, n29, n30, n35, n36, g7, trivial⟩)
                        skip
                        refine value_ (w1 := w6.alloc (.cells Z8 61 (0, 0))) (v := .pointer (some ⟨w6.heap.size, 0, none⟩)) (by rfl) rfl ?_ ?_
                        · (first | (go_simp; done) | (go_simp; rfl))
                        have hnew := blk_new w6 (.cells Z8 61 (0, 0))
                        have hb7 := below_alloc (Below.refl w6.heap.size w6) (.cells Z8 61 (0, 0))
                        generalize w6.alloc (.cells Z8 61 (0, 0)) = w7 at hnew hb7 ⊢
                        obtain ⟨ga, hga⟩ : ∃ ga, ga = w6.heap.size := ⟨_, rfl⟩
                        have hsz : w5.heap.size ≤ ga := by rw [hga]; exact hb6.size
                        rw [← hga] at hnew ⊢
                        clear hga
                        have hb8 := below_step hb6 hb7
                        have g7 := (show GoodP w5 w7 (.pointer (some ⟨ga, 0, none⟩)) from ⟨ga, rfl, hsz, hnew⟩)
                        have n29 := g29.below hb7
                        have n30 := g30.below hb7
                        have n35 := g35.below hb7
                        have n36 := g36.below hb7
                        refine hK.out _ _ ((hBF.below hb8)) (fun hHeld => ?_)
                        clear hK K
                        refine norm_ (a' := ?_) ?_ ?_
                        rotate_left
                        · show Act.put _ (some 16) _ = _
                          simp only [Act.put, List.setIfInBounds_toArray, List.set_cons_zero, List.set_cons_succ, i64_w, i32_w]
                          rfl
                        exact norm_ (by first | (simp only [putAll, Act.put, List.setIfInBounds_toArray, List.set_cons_zero, List.set_cons_succ]; done) | (simp only [putAll, Act.put, List.setIfInBounds_toArray, List.set_cons_zero, List.set_cons_succ]; rfl)) (hJ29_30_35_36_51 (x29, x30, x35, x36, .bool false, .bool false, .bool false, .bool false, .bool false, .pointer (some ⟨ga, 0, none⟩)) _ ⟨hb8, n29, n30, n35, n36, g7, trivial⟩)
                      skip
                      rintro ⟨x29, x30, x35, x36, x40, x43, x47, x48, x50, x51⟩ w6 ⟨hb6, g29, g30, g35, g36, g51, _⟩
                      dsimp only at g29 g30 g35 g36 g51
                      have hHeld := hBF.below hb6
                      refine norm_ (a' := ?_) ?_ ?_
                      rotate_left
                      · simp only [putAll, Act.put, List.setIfInBounds_toArray, List.set_cons_zero, List.set_cons_succ]
                        rfl
                      refine one_ (i := 40) (N := some 119) #[true, true, true, true, true, true, true, true, true, true, true, true, true, true, true, true, true, true, true, true, true, true, true, true, true, true, true, true, true, true, true, true, true, true, true, true, true, true, true, true, true, true, true, false, true, true, true, false, false, true, false, true, false] rfl rfl (by kernel_rfl) (by decide) (fun K hK => ?_)
                      refine goes_ Try.func23 (by kernel_rfl) rfl #[.int .i64 1, .slice p.a2 T.rule.length p.c2] (by rfl) rfl rfl (by simp only [List.map_toArray, List.map_cons, List.map_nil]; rfl) ?_
                      with_reducible refine (nums_n 1 (by decide) T.rule HFR.out p.a2 T.rule.length p.c2 _ rfl (by have := HD.out.n2; have := HD.out.u; omega) (HT0.out.below (below_step hB5 hb6)).r2 HT0.out.l2).mono ?_
                      rintro e w7 ⟨v7, rfl, hR7, hb7⟩
                      refine ⟨_, rfl, ?_⟩
                      have hb8 := below_step hb6 hb7
                      have g7 := GoodRow.of hR7
                      have n29 := g29.below hb7
                      have n30 := g30.below hb7
                      have n35 := g35.below hb7
                      have n36 := g36.below hb7
                      have n51 := g51.below hb7
                      refine hK.out _ _ ((hBF.below hb8)) (fun hHeld => ?_)
                      clear hK K
                      refine norm_ (a' := ?_) ?_ ?_
                      rotate_left
                      · show Act.put _ (some 119) _ = _
                        simp only [Act.put, List.setIfInBounds_toArray, List.set_cons_zero, List.set_cons_succ, i64_w, i32_w]
                        rfl
                      exact norm_ (by first | (simp only [putAll, Act.put, List.setIfInBounds_toArray, List.set_cons_zero, List.set_cons_succ]; done) | (simp only [putAll, Act.put, List.setIfInBounds_toArray, List.set_cons_zero, List.set_cons_succ]; rfl)) (hJ29_30_35_36_40_51 (x29, x30, x35, x36, v7, .bool false, .bool false, .bool false, .bool false, x51) _ ⟨hb8, n29, n30, n35, n36, g7, n51, trivial⟩)
                    skip
                    rintro ⟨x29, x30, x35, x36, x40, x43, x47, x48, x50, x51⟩ w6 ⟨hb6, g29, g30, g35, g36, g40, _⟩
                    dsimp only at g29 g30 g35 g36 g40
                    have hHeld := hBF.below hb6
                    refine norm_ (a' := ?_) ?_ ?_
                    rotate_left
                    · simp only [putAll, Act.put, List.setIfInBounds_toArray, List.set_cons_zero, List.set_cons_succ]
                      rfl
                    refine two_ (i := 43) (j := 51) (Ni := some 122) (Nj := some 16) #[true, true, true, true, true, true, true, true, true, true, true, true, true, true, true, true, true, true, true, true, true, true, true, true, true, true, true, true, true, true, true, true, true, true, true, true, true, true, true, true, true, true, true, true, true, true, true, false, false, true, false, false, false] #[true, true, true, true, true, true, true, true, true, true, true, true, true, true, true, true, true, true, true, true, true, true, true, true, true, true, true, true, true, true, true, true, true, true, true, true, true, true, true, true, true, true, true, false, true, true, true, false, false, true, false, true, false] rfl rfl rfl rfl (by kernel_rfl) (by decide) (by decide) (fun K hK => ?_) (fun K hK => ?_)
                    · skip
                      refine goes_ Try.func23 (by kernel_rfl) rfl #[.int .i64 0, .slice p.a3 T.terms.length p.c3] (by rfl) rfl rfl (by simp only [List.map_toArray, List.map_cons, List.map_nil]; rfl) ?_
                      with_reducible refine (nums_n 0 (by decide) T.terms HFT.out p.a3 T.terms.length p.c3 _ rfl (by have := M.t; omega) (HT0.out.below (below_step hB5 hb6)).r3 HT0.out.l3).mono ?_
                      rintro e w7 ⟨v7, rfl, hR7, hb7⟩
                      refine ⟨_, rfl, ?_⟩
                      have hb8 := below_step hb6 hb7
                      have g7 := GoodRow.of hR7
                      have n29 := g29.below hb7
                      have n30 := g30.below hb7
                      have n35 := g35.below hb7
                      have n36 := g36.below hb7
                      have n40 := g40.below hb7
                      refine hK.out _ _ ((hBF.below hb8)) (fun hHeld => ?_)
                      clear hK K
                      refine norm_ (a' := ?_) ?_ ?_
                      rotate_left
                      · show Act.put _ (some 122) _ = _
                        simp only [Act.put, List.setIfInBounds_toArray, List.set_cons_zero, List.set_cons_succ, i64_w, i32_w]
                        rfl
                      exact norm_ (by first | (simp only [putAll, Act.put, List.setIfInBounds_toArray, List.set_cons_zero, List.set_cons_succ]; done) | (simp only [putAll, Act.put, List.setIfInBounds_toArray, List.set_cons_zero, List.set_cons_succ]; rfl)) (hJ29_30_35_36_40_43 (x29, x30, x35, x36, x40, v7, .bool false, .bool false, .bool false, .bool false) _ ⟨hb8, n29, n30, n35, n36, n40, g7, trivial⟩)
                    skip
                    refine value_ (w1 := w6.alloc (.cells Z8 61 (0, 0))) (v := .pointer (some ⟨w6.heap.size, 0, none⟩)) (by rfl) rfl ?_ ?_
                    · (first | (go_simp; done) | (go_simp; rfl))
                    have hnew := blk_new w6 (.cells Z8 61 (0, 0))
                    have hb7 := below_alloc (Below.refl w6.heap.size w6) (.cells Z8 61 (0, 0))
                    generalize w6.alloc (.cells Z8 61 (0, 0)) = w7 at hnew hb7 ⊢
                    obtain ⟨ga, hga⟩ : ∃ ga, ga = w6.heap.size := ⟨_, rfl⟩
                    have hsz : w5.heap.size ≤ ga := by rw [hga]; exact hb6.size
                    rw [← hga] at hnew ⊢
                    clear hga
                    have hb8 := below_step hb6 hb7
                    have g7 := (show GoodP w5 w7 (.pointer (some ⟨ga, 0, none⟩)) from ⟨ga, rfl, hsz, hnew⟩)
                    have n29 := g29.below hb7
                    have n30 := g30.below hb7
                    have n35 := g35.below hb7
                    have n36 := g36.below hb7
                    have n40 := g40.below hb7
                    refine hK.out _ _ ((hBF.below hb8)) (fun hHeld => ?_)
                    clear hK K
                    refine norm_ (a' := ?_) ?_ ?_
                    rotate_left
                    · show Act.put _ (some 16) _ = _
                      simp only [Act.put, List.setIfInBounds_toArray, List.set_cons_zero, List.set_cons_succ, i64_w, i32_w]
                      rfl
                    exact norm_ (by first | (simp only [putAll, Act.put, List.setIfInBounds_toArray, List.set_cons_zero, List.set_cons_succ]; done) | (simp only [putAll, Act.put, List.setIfInBounds_toArray, List.set_cons_zero, List.set_cons_succ]; rfl)) (hJ29_30_35_36_40_51 (x29, x30, x35, x36, x40, .bool false, .bool false, .bool false, .bool false, .pointer (some ⟨ga, 0, none⟩)) _ ⟨hb8, n29, n30, n35, n36, n40, g7, trivial⟩)
                  skip
                  rintro ⟨x29, x30, x35, x36, x40, x43, x47, x48, x50, x51⟩ w6 ⟨hb6, g29, g30, g35, g36, g40, g51, _⟩
                  dsimp only at g29 g30 g35 g36 g40 g51
                  have hHeld := hBF.below hb6
                  refine norm_ (a' := ?_) ?_ ?_
                  rotate_left
                  · simp only [putAll, Act.put, List.setIfInBounds_toArray, List.set_cons_zero, List.set_cons_succ]
                    rfl
                  refine one_ (i := 43) (N := some 122) #[true, true, true, true, true, true, true, true, true, true, true, true, true, true, true, true, true, true, true, true, true, true, true, true, true, true, true, true, true, true, true, true, true, true, true, true, true, true, true, true, true, true, true, true, true, true, true, false, false, true, false, true, false] rfl rfl (by kernel_rfl) (by decide) (fun K hK => ?_)
                  refine goes_ Try.func23 (by kernel_rfl) rfl #[.int .i64 0, .slice p.a3 T.terms.length p.c3] (by rfl) rfl rfl (by simp only [List.map_toArray, List.map_cons, List.map_nil]; rfl) ?_
                  with_reducible refine (nums_n 0 (by decide) T.terms HFT.out p.a3 T.terms.length p.c3 _ rfl (by have := M.t; omega) (HT0.out.below (below_step hB5 hb6)).r3 HT0.out.l3).mono ?_
                  rintro e w7 ⟨v7, rfl, hR7, hb7⟩
                  refine ⟨_, rfl, ?_⟩
                  have hb8 := below_step hb6 hb7
                  have g7 := GoodRow.of hR7
                  have n29 := g29.below hb7
                  have n30 := g30.below hb7
                  have n35 := g35.below hb7
                  have n36 := g36.below hb7
                  have n40 := g40.below hb7
                  have n51 := g51.below hb7
                  refine hK.out _ _ ((hBF.below hb8)) (fun hHeld => ?_)
                  clear hK K
                  refine norm_ (a' := ?_) ?_ ?_
                  rotate_left
                  · show Act.put _ (some 122) _ = _
                    simp only [Act.put, List.setIfInBounds_toArray, List.set_cons_zero, List.set_cons_succ, i64_w, i32_w]
                    rfl
                  exact norm_ (by first | (simp only [putAll, Act.put, List.setIfInBounds_toArray, List.set_cons_zero, List.set_cons_succ]; done) | (simp only [putAll, Act.put, List.setIfInBounds_toArray, List.set_cons_zero, List.set_cons_succ]; rfl)) (hJ29_30_35_36_40_43_51 (x29, x30, x35, x36, x40, v7, .bool false, .bool false, .bool false, x51) _ ⟨hb8, n29, n30, n35, n36, n40, g7, n51, trivial⟩)
                skip
                rintro ⟨x29, x30, x35, x36, x40, x43, x47, x48, x50, x51⟩ w6 ⟨hb6, g29, g30, g35, g36, g40, g43, _⟩
                dsimp only at g29 g30 g35 g36 g40 g43
                have hHeld := hBF.below hb6
                refine norm_ (a' := ?_) ?_ ?_
                rotate_left
                · simp only [putAll, Act.put, List.setIfInBounds_toArray, List.set_cons_zero, List.set_cons_succ]
                  rfl
                refine two_ (i := 47) (j := 51) (Ni := some 126) (Nj := some 16) #[true, true, true, true, true, true, true, true, true, true, true, true, true, true, true, true, true, true, true, true, true, true, true, true, true, true, true, true, true, true, true, true, true, true, true, true, true, true, true, true, true, true, true, true, true, true, true, true, false, true, false, false, false] #[true, true, true, true, true, true, true, true, true, true, true, true, true, true, true, true, true, true, true, true, true, true, true, true, true, true, true, true, true, true, true, true, true, true, true, true, true, true, true, true, true, true, true, true, true, true, true, false, false, true, false, true, false] rfl rfl rfl rfl (by kernel_rfl) (by decide) (by decide) (fun K hK => ?_) (fun K hK => ?_)
                · skip
                  refine goes_ Try.func25 (by kernel_rfl) rfl #[.slice (some ad5) T.goto.length p.c5] (by rfl) rfl rfl (by simp only [List.map_toArray, List.map_cons, List.map_nil]; rfl) ?_
                  with_reducible refine (concat_n T.goto (some ad5) T.goto.length p.c5 _ rfl (by have := M.g; have := M.s2; omega) (by have := HFG.out.2; omega) (HCG.out _ hb6) HT0.out.l5).mono ?_
                  rintro e w7 ⟨v7, rfl, hR7, hb7⟩
                  refine ⟨_, rfl, ?_⟩
                  have hb8 := below_step hb6 hb7
                  have g7 := GoodZ.of hR7
                  have n29 := g29.below hb7
                  have n30 := g30.below hb7
                  have n35 := g35.below hb7
                  have n36 := g36.below hb7
                  have n40 := g40.below hb7
                  have n43 := g43.below hb7
                  refine hK.out _ _ ((hBF.below hb8)) (fun hHeld => ?_)
                  clear hK K
                  refine norm_ (a' := ?_) ?_ ?_
                  rotate_left
                  · show Act.put _ (some 126) _ = _
                    simp only [Act.put, List.setIfInBounds_toArray, List.set_cons_zero, List.set_cons_succ, i64_w, i32_w]
                    rfl
                  exact norm_ (by first | (simp only [putAll, Act.put, List.setIfInBounds_toArray, List.set_cons_zero, List.set_cons_succ]; done) | (simp only [putAll, Act.put, List.setIfInBounds_toArray, List.set_cons_zero, List.set_cons_succ]; rfl)) (hJ29_30_35_36_40_43_47 (x29, x30, x35, x36, x40, x43, v7, .bool false, .bool false, .bool false) _ ⟨hb8, n29, n30, n35, n36, n40, n43, g7, trivial⟩)
                skip
                refine value_ (w1 := w6.alloc (.cells Z8 61 (0, 0))) (v := .pointer (some ⟨w6.heap.size, 0, none⟩)) (by rfl) rfl ?_ ?_
                · (first | (go_simp; done) | (go_simp; rfl))
                have hnew := blk_new w6 (.cells Z8 61 (0, 0))
                have hb7 := below_alloc (Below.refl w6.heap.size w6) (.cells Z8 61 (0, 0))
                generalize w6.alloc (.cells Z8 61 (0, 0)) = w7 at hnew hb7 ⊢
                obtain ⟨ga, hga⟩ : ∃ ga, ga = w6.heap.size := ⟨_, rfl⟩
                have hsz : w5.heap.size ≤ ga := by rw [hga]; exact hb6.size
                rw [← hga] at hnew ⊢
                clear hga
                have hb8 := below_step hb6 hb7
                have g7 := (show GoodP w5 w7 (.pointer (some ⟨ga, 0, none⟩)) from ⟨ga, rfl, hsz, hnew⟩)
                have n29 := g29.below hb7
                have n30 := g30.below hb7
                have n35 := g35.below hb7
                have n36 := g36.below hb7
                have n40 := g40.below hb7
                have n43 := g43.below hb7
                refine hK.out _ _ ((hBF.below hb8)) (fun hHeld => ?_)
                clear hK K
                refine norm_ (a' := ?_) ?_ ?_
                rotate_left
                · show Act.put _ (some 16) _ = _
                  simp only [Act.put, List.setIfInBounds_toArray, List.set_cons_zero, List.set_cons_succ, i64_w, i32_w]
                  rfl
                exact norm_ (by first | (simp only [putAll, Act.put, List.setIfInBounds_toArray, List.set_cons_zero, List.set_cons_succ]; done) | (simp only [putAll, Act.put, List.setIfInBounds_toArray, List.set_cons_zero, List.set_cons_succ]; rfl)) (hJ29_30_35_36_40_43_51 (x29, x30, x35, x36, x40, x43, .bool false, .bool false, .bool false, .pointer (some ⟨ga, 0, none⟩)) _ ⟨hb8, n29, n30, n35, n36, n40, n43, g7, trivial⟩)
              skip
              rintro ⟨x29, x30, x35, x36, x40, x43, x47, x48, x50, x51⟩ w6 ⟨hb6, g29, g30, g35, g36, g40, g43, g51, _⟩
              dsimp only at g29 g30 g35 g36 g40 g43 g51
              have hHeld := hBF.below hb6
              refine norm_ (a' := ?_) ?_ ?_
              rotate_left
              · simp only [putAll, Act.put, List.setIfInBounds_toArray, List.set_cons_zero, List.set_cons_succ]
                rfl
              refine one_ (i := 47) (N := some 126) #[true, true, true, true, true, true, true, true, true, true, true, true, true, true, true, true, true, true, true, true, true, true, true, true, true, true, true, true, true, true, true, true, true, true, true, true, true, true, true, true, true, true, true, true, true, true, true, true, false, true, false, true, false] rfl rfl (by kernel_rfl) (by decide) (fun K hK => ?_)
              refine goes_ Try.func25 (by kernel_rfl) rfl #[.slice (some ad5) T.goto.length p.c5] (by rfl) rfl rfl (by simp only [List.map_toArray, List.map_cons, List.map_nil]; rfl) ?_
              with_reducible refine (concat_n T.goto (some ad5) T.goto.length p.c5 _ rfl (by have := M.g; have := M.s2; omega) (by have := HFG.out.2; omega) (HCG.out _ hb6) HT0.out.l5).mono ?_
              rintro e w7 ⟨v7, rfl, hR7, hb7⟩
              refine ⟨_, rfl, ?_⟩
              have hb8 := below_step hb6 hb7
              have g7 := GoodZ.of hR7
              have n29 := g29.below hb7
              have n30 := g30.below hb7
              have n35 := g35.below hb7
              have n36 := g36.below hb7
              have n40 := g40.below hb7
              have n43 := g43.below hb7
              have n51 := g51.below hb7
              refine hK.out _ _ ((hBF.below hb8)) (fun hHeld => ?_)
              clear hK K
              refine norm_ (a' := ?_) ?_ ?_
              rotate_left
              · show Act.put _ (some 126) _ = _
                simp only [Act.put, List.setIfInBounds_toArray, List.set_cons_zero, List.set_cons_succ, i64_w, i32_w]
                rfl
              exact norm_ (by first | (simp only [putAll, Act.put, List.setIfInBounds_toArray, List.set_cons_zero, List.set_cons_succ]; done) | (simp only [putAll, Act.put, List.setIfInBounds_toArray, List.set_cons_zero, List.set_cons_succ]; rfl)) (hJ29_30_35_36_40_43_47_51 (x29, x30, x35, x36, x40, x43, v7, .bool false, .bool false, x51) _ ⟨hb8, n29, n30, n35, n36, n40, n43, g7, n51, trivial⟩)
            skip
            rintro ⟨x29, x30, x35, x36, x40, x43, x47, x48, x50, x51⟩ w6 ⟨hb6, g29, g30, g35, g36, g40, g43, g47, _⟩
            dsimp only at g29 g30 g35 g36 g40 g43 g47
            have hHeld := hBF.below hb6
            refine norm_ (a' := ?_) ?_ ?_
            rotate_left
            · simp only [putAll, Act.put, List.setIfInBounds_toArray, List.set_cons_zero, List.set_cons_succ]
              rfl
            refine two_ (i := 48) (j := 51) (Ni := some 127) (Nj := some 16) #[true, true, true, true, true, true, true, true, true, true, true, true, true, true, true, true, true, true, true, true, true, true, true, true, true, true, true, true, true, true, true, true, true, true, true, true, true, true, true, true, true, true, true, true, true, true, true, true, true, true, false, false, false] #[true, true, true, true, true, true, true, true, true, true, true, true, true, true, true, true, true, true, true, true, true, true, true, true, true, true, true, true, true, true, true, true, true, true, true, true, true, true, true, true, true, true, true, true, true, true, true, true, false, true, false, true, false] rfl rfl rfl rfl (by kernel_rfl) (by decide) (by decide) (fun K hK => ?_) (fun K hK => ?_)
            · skip
              obtain ⟨a47, q47, e_, h47, C47⟩ := id g47
              subst e_
              refine goes_ Try.func23 (by kernel_rfl) rfl #[.int .i64 1, .slice a47 (T.goto.flatten).length q47] (by rfl) rfl rfl (by simp only [List.map_toArray, List.map_cons, List.map_nil]; rfl) ?_
              with_reducible refine (nums_n 1 (by decide) (T.goto.flatten) HFG.out.1 a47 (T.goto.flatten).length q47 _ rfl (by first | (have := HFG.out.2; omega) | (simp [dimsL]; done)) C47 h47).mono ?_
              rintro e w7 ⟨v7, rfl, hR7, hb7⟩
              refine ⟨_, rfl, ?_⟩
              have hb8 := below_step hb6 hb7
              have g7 := GoodRow.of hR7
              have n29 := g29.below hb7
              have n30 := g30.below hb7
              have n35 := g35.below hb7
              have n36 := g36.below hb7
              have n40 := g40.below hb7
              have n43 := g43.below hb7
              have n47 := g47.below hb7
              refine hK.out _ _ ((hBF.below hb8)) (fun hHeld => ?_)
              clear hK K
              refine norm_ (a' := ?_) ?_ ?_
              rotate_left
              · show Act.put _ (some 127) _ = _
                simp only [Act.put, List.setIfInBounds_toArray, List.set_cons_zero, List.set_cons_succ, i64_w, i32_w]
                rfl
              exact norm_ (by first | (simp only [putAll, Act.put, List.setIfInBounds_toArray, List.set_cons_zero, List.set_cons_succ]; done) | (simp only [putAll, Act.put, List.setIfInBounds_toArray, List.set_cons_zero, List.set_cons_succ]; rfl)) (hJ29_30_35_36_40_43_47_48 (x29, x30, x35, x36, x40, x43, .slice a47 (T.goto.flatten).length q47, v7, .bool false, .bool false) _ ⟨hb8, n29, n30, n35, n36, n40, n43, n47, g7, trivial⟩)
            skip
            refine value_ (w1 := w6.alloc (.cells Z8 61 (0, 0))) (v := .pointer (some ⟨w6.heap.size, 0, none⟩)) (by rfl) rfl ?_ ?_
            · (first | (go_simp; done) | (go_simp; rfl))
            have hnew := blk_new w6 (.cells Z8 61 (0, 0))
            have hb7 := below_alloc (Below.refl w6.heap.size w6) (.cells Z8 61 (0, 0))
            generalize w6.alloc (.cells Z8 61 (0, 0)) = w7 at hnew hb7 ⊢
            obtain ⟨ga, hga⟩ : ∃ ga, ga = w6.heap.size := ⟨_, rfl⟩
            have hsz : w5.heap.size ≤ ga := by rw [hga]; exact hb6.size
            rw [← hga] at hnew ⊢
            clear hga
            have hb8 := below_step hb6 hb7
            have g7 := (show GoodP w5 w7 (.pointer (some ⟨ga, 0, none⟩)) from ⟨ga, rfl, hsz, hnew⟩)
            have n29 := g29.below hb7
            have n30 := g30.below hb7
            have n35 := g35.below hb7
            have n36 := g36.below hb7
            have n40 := g40.below hb7
            have n43 := g43.below hb7
            have n47 := g47.below hb7
            refine hK.out _ _ ((hBF.below hb8)) (fun hHeld => ?_)
            clear hK K
            refine norm_ (a' := ?_) ?_ ?_
            rotate_left
            · show Act.put _ (some 16) _ = _
              simp only [Act.put, List.setIfInBounds_toArray, List.set_cons_zero, List.set_cons_succ, i64_w, i32_w]
              rfl
            exact norm_ (by first | (simp only [putAll, Act.put, List.setIfInBounds_toArray, List.set_cons_zero, List.set_cons_succ]; done) | (simp only [putAll, Act.put, List.setIfInBounds_toArray, List.set_cons_zero, List.set_cons_succ]; rfl)) (hJ29_30_35_36_40_43_47_51 (x29, x30, x35, x36, x40, x43, x47, .bool false, .bool false, .pointer (some ⟨ga, 0, none⟩)) _ ⟨hb8, n29, n30, n35, n36, n40, n43, n47, g7, trivial⟩)
          skip
          rintro ⟨x29, x30, x35, x36, x40, x43, x47, x48, x50, x51⟩ w6 ⟨hb6, g29, g30, g35, g36, g40, g43, g47, g51, _⟩
          dsimp only at g29 g30 g35 g36 g40 g43 g47 g51
          have hHeld := hBF.below hb6
          refine norm_ (a' := ?_) ?_ ?_
          rotate_left
          · simp only [putAll, Act.put, List.setIfInBounds_toArray, List.set_cons_zero, List.set_cons_succ]
            rfl
          refine one_ (i := 48) (N := some 127) #[true, true, true, true, true, true, true, true, true, true, true, true, true, true, true, true, true, true, true, true, true, true, true, true, true, true, true, true, true, true, true, true, true, true, true, true, true, true, true, true, true, true, true, true, true, true, true, true, true, true, false, true, false] rfl rfl (by kernel_rfl) (by decide) (fun K hK => ?_)
          obtain ⟨a47, q47, e_, h47, C47⟩ := id g47
          subst e_
          refine goes_ Try.func23 (by kernel_rfl) rfl #[.int .i64 1, .slice a47 (T.goto.flatten).length q47] (by rfl) rfl rfl (by simp only [List.map_toArray, List.map_cons, List.map_nil]; rfl) ?_
          with_reducible refine (nums_n 1 (by decide) (T.goto.flatten) HFG.out.1 a47 (T.goto.flatten).length q47 _ rfl (by first | (have := HFG.out.2; omega) | (simp [dimsL]; done)) C47 h47).mono ?_
          rintro e w7 ⟨v7, rfl, hR7, hb7⟩
          refine ⟨_, rfl, ?_⟩
          have hb8 := below_step hb6 hb7
          have g7 := GoodRow.of hR7
          have n29 := g29.below hb7
          have n30 := g30.below hb7
          have n35 := g35.below hb7
          have n36 := g36.below hb7
          have n40 := g40.below hb7
          have n43 := g43.below hb7
          have n47 := g47.below hb7
          have n51 := g51.below hb7
          refine hK.out _ _ ((hBF.below hb8)) (fun hHeld => ?_)
          clear hK K
          refine norm_ (a' := ?_) ?_ ?_
          rotate_left
          · show Act.put _ (some 127) _ = _
            simp only [Act.put, List.setIfInBounds_toArray, List.set_cons_zero, List.set_cons_succ, i64_w, i32_w]
            rfl
          exact norm_ (by first | (simp only [putAll, Act.put, List.setIfInBounds_toArray, List.set_cons_zero, List.set_cons_succ]; done) | (simp only [putAll, Act.put, List.setIfInBounds_toArray, List.set_cons_zero, List.set_cons_succ]; rfl)) (hJ29_30_35_36_40_43_47_48_51 (x29, x30, x35, x36, x40, x43, .slice a47 (T.goto.flatten).length q47, v7, .bool false, x51) _ ⟨hb8, n29, n30, n35, n36, n40, n43, n47, g7, n51, trivial⟩)
        skip
        rintro ⟨x29, x30, x35, x36, x40, x43, x47, x48, x50, x51⟩ w6 ⟨hb6, g29, g30, g35, g36, g40, g43, g47, g48, _⟩
        dsimp only at g29 g30 g35 g36 g40 g43 g47 g48
        have hHeld := hBF.below hb6
        refine norm_ (a' := ?_) ?_ ?_
        rotate_left
        · simp only [putAll, Act.put, List.setIfInBounds_toArray, List.set_cons_zero, List.set_cons_succ]
          rfl
        refine two_ (i := 50) (j := 51) (Ni := some 129) (Nj := some 16) #[true, true, true, true, true, true, true, true, true, true, true, true, true, true, true, true, true, true, true, true, true, true, true, true, true, true, true, true, true, true, true, true, true, true, true, true, true, true, true, true, true, true, true, true, true, true, true, true, true, true, true, false, false] #[true, true, true, true, true, true, true, true, true, true, true, true, true, true, true, true, true, true, true, true, true, true, true, true, true, true, true, true, true, true, true, true, true, true, true, true, true, true, true, true, true, true, true, true, true, true, true, true, true, true, false, true, false] rfl rfl rfl rfl (by kernel_rfl) (by decide) (by decide) (fun K hK => ?_) (fun K hK => ?_)
        · skip
          obtain ⟨a30, q30, e_, h30, C30⟩ := id g30
          subst e_
          obtain ⟨a36, q36, e_, h36, C36⟩ := id g36
          subst e_
          obtain ⟨a40, q40, e_, h40, C40⟩ := id g40
          subst e_
          obtain ⟨a43, q43, e_, h43, C43⟩ := id g43
          subst e_
          obtain ⟨a48, q48, e_, h48, C48⟩ := id g48
          subst e_
          refine value_ (w1 := w6) (v := .agg #[.slice a30 (numsL 0 (dimsL T)).length q30, .slice (some ⟨gc, 0, none⟩) 256 cc, .slice a36 (numsL 1 T.next.flatten).length q36, .slice a40 (numsL 1 T.rule).length q40, .slice a43 (numsL 0 T.terms).length q43, .slice AA BA.length cA, .slice a48 (numsL 1 T.goto.flatten).length q48, .slice Ab Bs.length cb]) (by rfl) rfl ?_ ?_
          · (first | (go_simp; done) | (go_simp; rfl))
          obtain ⟨w7, hw7⟩ : ∃ W, W = w6 := ⟨_, rfl⟩
          have hb7 : Below w6.heap.size w6 w7 := by rw [hw7]; exact Below.refl _ _
          rw [← hw7]
          clear hw7
          have hb8 := below_step hb6 hb7
          have g7 := (rfl : (.agg #[.slice a30 (numsL 0 (dimsL T)).length q30, .slice (some ⟨gc, 0, none⟩) 256 cc, .slice a36 (numsL 1 T.next.flatten).length q36, .slice a40 (numsL 1 T.rule).length q40, .slice a43 (numsL 0 T.terms).length q43, .slice AA BA.length cA, .slice a48 (numsL 1 T.goto.flatten).length q48, .slice Ab Bs.length cb] : Value) = .agg #[.slice a30 (numsL 0 (dimsL T)).length q30, .slice (some ⟨gc, 0, none⟩) 256 cc, .slice a36 (numsL 1 T.next.flatten).length q36, .slice a40 (numsL 1 T.rule).length q40, .slice a43 (numsL 0 T.terms).length q43, .slice AA BA.length cA, .slice a48 (numsL 1 T.goto.flatten).length q48, .slice Ab Bs.length cb])
          have n29 := g29.below hb7
          have n30 := g30.below hb7
          have n35 := g35.below hb7
          have n36 := g36.below hb7
          have n40 := g40.below hb7
          have n43 := g43.below hb7
          have n47 := g47.below hb7
          have n48 := g48.below hb7
          refine hK.out _ _ ((hBF.below hb8)) (fun hHeld => ?_)
          clear hK K
          refine norm_ (a' := ?_) ?_ ?_
          rotate_left
          · show Act.put _ (some 129) _ = _
            simp only [Act.put, List.setIfInBounds_toArray, List.set_cons_zero, List.set_cons_succ, i64_w, i32_w]
            rfl
          exact norm_ (by first | (simp only [putAll, Act.put, List.setIfInBounds_toArray, List.set_cons_zero, List.set_cons_succ]; done) | (simp only [putAll, Act.put, List.setIfInBounds_toArray, List.set_cons_zero, List.set_cons_succ]; rfl)) (hJ29_30_35_36_40_43_47_48_50 (x29, .slice a30 (numsL 0 (dimsL T)).length q30, x35, .slice a36 (numsL 1 T.next.flatten).length q36, .slice a40 (numsL 1 T.rule).length q40, .slice a43 (numsL 0 T.terms).length q43, x47, .slice a48 (numsL 1 T.goto.flatten).length q48, .agg #[.slice a30 (numsL 0 (dimsL T)).length q30, .slice (some ⟨gc, 0, none⟩) 256 cc, .slice a36 (numsL 1 T.next.flatten).length q36, .slice a40 (numsL 1 T.rule).length q40, .slice a43 (numsL 0 T.terms).length q43, .slice AA BA.length cA, .slice a48 (numsL 1 T.goto.flatten).length q48, .slice Ab Bs.length cb], .bool false) _ ⟨hb8, n29, n30, n35, n36, n40, n43, n47, n48, g7, trivial⟩)
        skip
        refine value_ (w1 := w6.alloc (.cells Z8 61 (0, 0))) (v := .pointer (some ⟨w6.heap.size, 0, none⟩)) (by rfl) rfl ?_ ?_
        · (first | (go_simp; done) | (go_simp; rfl))
        have hnew := blk_new w6 (.cells Z8 61 (0, 0))
        have hb7 := below_alloc (Below.refl w6.heap.size w6) (.cells Z8 61 (0, 0))
        generalize w6.alloc (.cells Z8 61 (0, 0)) = w7 at hnew hb7 ⊢
        obtain ⟨ga, hga⟩ : ∃ ga, ga = w6.heap.size := ⟨_, rfl⟩
        have hsz : w5.heap.size ≤ ga := by rw [hga]; exact hb6.size
        rw [← hga] at hnew ⊢
        clear hga
        have hb8 := below_step hb6 hb7
        have g7 := (show GoodP w5 w7 (.pointer (some ⟨ga, 0, none⟩)) from ⟨ga, rfl, hsz, hnew⟩)
        have n29 := g29.below hb7
        have n30 := g30.below hb7
        have n35 := g35.below hb7
        have n36 := g36.below hb7
        have n40 := g40.below hb7
        have n43 := g43.below hb7
        have n47 := g47.below hb7
        have n48 := g48.below hb7
        refine hK.out _ _ ((hBF.below hb8)) (fun hHeld => ?_)
        clear hK K
        refine norm_ (a' := ?_) ?_ ?_
        rotate_left
        · show Act.put _ (some 16) _ = _
          simp only [Act.put, List.setIfInBounds_toArray, List.set_cons_zero, List.set_cons_succ, i64_w, i32_w]
          rfl
        exact norm_ (by first | (simp only [putAll, Act.put, List.setIfInBounds_toArray, List.set_cons_zero, List.set_cons_succ]; done) | (simp only [putAll, Act.put, List.setIfInBounds_toArray, List.set_cons_zero, List.set_cons_succ]; rfl)) (hJ29_30_35_36_40_43_47_48_51 (x29, x30, x35, x36, x40, x43, x47, x48, .bool false, .pointer (some ⟨ga, 0, none⟩)) _ ⟨hb8, n29, n30, n35, n36, n40, n43, n47, n48, g7, trivial⟩)
      skip
      rintro ⟨x29, x30, x35, x36, x40, x43, x47, x48, x50, x51⟩ w6 ⟨hb6, g29, g30, g35, g36, g40, g43, g47, g48, g51, _⟩
      dsimp only at g29 g30 g35 g36 g40 g43 g47 g48 g51
      have hHeld := hBF.below hb6
      refine norm_ (a' := ?_) ?_ ?_
      rotate_left
      · simp only [putAll, Act.put, List.setIfInBounds_toArray, List.set_cons_zero, List.set_cons_succ]
        rfl
      refine one_ (i := 50) (N := some 129) #[true, true, true, true, true, true, true, true, true, true, true, true, true, true, true, true, true, true, true, true, true, true, true, true, true, true, true, true, true, true, true, true, true, true, true, true, true, true, true, true, true, true, true, true, true, true, true, true, true, true, true, true, false] rfl rfl (by kernel_rfl) (by decide) (fun K hK => ?_)
      obtain ⟨a30, q30, e_, h30, C30⟩ := id g30
      subst e_
      obtain ⟨a36, q36, e_, h36, C36⟩ := id g36
      subst e_
      obtain ⟨a40, q40, e_, h40, C40⟩ := id g40
      subst e_
      obtain ⟨a43, q43, e_, h43, C43⟩ := id g43
      subst e_
      obtain ⟨a48, q48, e_, h48, C48⟩ := id g48
      subst e_
      refine value_ (w1 := w6) (v := .agg #[.slice a30 (numsL 0 (dimsL T)).length q30, .slice (some ⟨gc, 0, none⟩) 256 cc, .slice a36 (numsL 1 T.next.flatten).length q36, .slice a40 (numsL 1 T.rule).length q40, .slice a43 (numsL 0 T.terms).length q43, .slice AA BA.length cA, .slice a48 (numsL 1 T.goto.flatten).length q48, .slice Ab Bs.length cb]) (by rfl) rfl ?_ ?_
      · (first | (go_simp; done) | (go_simp; rfl))
      obtain ⟨w7, hw7⟩ : ∃ W, W = w6 := ⟨_, rfl⟩
      have hb7 : Below w6.heap.size w6 w7 := by rw [hw7]; exact Below.refl _ _
      rw [← hw7]
      clear hw7
      have hb8 := below_step hb6 hb7
      have g7 := (rfl : (.agg #[.slice a30 (numsL 0 (dimsL T)).length q30, .slice (some ⟨gc, 0, none⟩) 256 cc, .slice a36 (numsL 1 T.next.flatten).length q36, .slice a40 (numsL 1 T.rule).length q40, .slice a43 (numsL 0 T.terms).length q43, .slice AA BA.length cA, .slice a48 (numsL 1 T.goto.flatten).length q48, .slice Ab Bs.length cb] : Value) = .agg #[.slice a30 (numsL 0 (dimsL T)).length q30, .slice (some ⟨gc, 0, none⟩) 256 cc, .slice a36 (numsL 1 T.next.flatten).length q36, .slice a40 (numsL 1 T.rule).length q40, .slice a43 (numsL 0 T.terms).length q43, .slice AA BA.length cA, .slice a48 (numsL 1 T.goto.flatten).length q48, .slice Ab Bs.length cb])
      have n29 := g29.below hb7
      have n30 := g30.below hb7
      have n35 := g35.below hb7
      have n36 := g36.below hb7
      have n40 := g40.below hb7
      have n43 := g43.below hb7
      have n47 := g47.below hb7
      have n48 := g48.below hb7
      have n51 := g51.below hb7
      refine hK.out _ _ ((hBF.below hb8)) (fun hHeld => ?_)
      clear hK K
      refine norm_ (a' := ?_) ?_ ?_
      rotate_left
      · show Act.put _ (some 129) _ = _
        simp only [Act.put, List.setIfInBounds_toArray, List.set_cons_zero, List.set_cons_succ, i64_w, i32_w]
        rfl
      exact norm_ (by first | (simp only [putAll, Act.put, List.setIfInBounds_toArray, List.set_cons_zero, List.set_cons_succ]; done) | (simp only [putAll, Act.put, List.setIfInBounds_toArray, List.set_cons_zero, List.set_cons_succ]; rfl)) (hJ29_30_35_36_40_43_47_48_50_51 (x29, .slice a30 (numsL 0 (dimsL T)).length q30, x35, .slice a36 (numsL 1 T.next.flatten).length q36, .slice a40 (numsL 1 T.rule).length q40, .slice a43 (numsL 0 T.terms).length q43, x47, .slice a48 (numsL 1 T.goto.flatten).length q48, .agg #[.slice a30 (numsL 0 (dimsL T)).length q30, .slice (some ⟨gc, 0, none⟩) 256 cc, .slice a36 (numsL 1 T.next.flatten).length q36, .slice a40 (numsL 1 T.rule).length q40, .slice a43 (numsL 0 T.terms).length q43, .slice AA BA.length cA, .slice a48 (numsL 1 T.goto.flatten).length q48, .slice Ab Bs.length cb], x51) _ ⟨hb8, n29, n30, n35, n36, n40, n43, n47, n48, g7, n51, trivial⟩)
    skip
    rintro ⟨x29, x30, x35, x36, x40, x43, x47, x48, x50, x51⟩ w6 ⟨hb6, g29, g30, g35, g36, g40, g43, g47, g48, g50, _⟩
    dsimp only at g29 g30 g35 g36 g40 g43 g47 g48 g50
    have hHeld := hBF.below hb6
    refine norm_ (a' := ?_) ?_ ?_
    rotate_left
    · simp only [putAll, Act.put, List.setIfInBounds_toArray, List.set_cons_zero, List.set_cons_succ]
      rfl
    refine one_ (i := 51) (N := some 16) #[true, true, true, true, true, true, true, true, true, true, true, true, true, true, true, true, true, true, true, true, true, true, true, true, true, true, true, true, true, true, true, true, true, true, true, true, true, true, true, true, true, true, true, true, true, true, true, true, true, true, true, true, false] rfl rfl (by kernel_rfl) (by decide) (fun K hK => ?_)
    refine value_ (w1 := w6.alloc (.cells Z8 61 (0, 0))) (v := .pointer (some ⟨w6.heap.size, 0, none⟩)) (by rfl) rfl ?_ ?_
    · (first | (go_simp; done) | (go_simp; rfl))
    have hnew := blk_new w6 (.cells Z8 61 (0, 0))
    have hb7 := below_alloc (Below.refl w6.heap.size w6) (.cells Z8 61 (0, 0))
    generalize w6.alloc (.cells Z8 61 (0, 0)) = w7 at hnew hb7 ⊢
    obtain ⟨ga, hga⟩ : ∃ ga, ga = w6.heap.size := ⟨_, rfl⟩
    have hsz : w5.heap.size ≤ ga := by rw [hga]; exact hb6.size
    rw [← hga] at hnew ⊢
    clear hga
    have hb8 := below_step hb6 hb7
    have g7 := (show GoodP w5 w7 (.pointer (some ⟨ga, 0, none⟩)) from ⟨ga, rfl, hsz, hnew⟩)
    have n29 := g29.below hb7
    have n30 := g30.below hb7
    have n35 := g35.below hb7
    have n36 := g36.below hb7
    have n40 := g40.below hb7
    have n43 := g43.below hb7
    have n47 := g47.below hb7
    have n48 := g48.below hb7
    have n50 := g50
    refine hK.out _ _ ((hBF.below hb8)) (fun hHeld => ?_)
    clear hK K
    refine norm_ (a' := ?_) ?_ ?_
    rotate_left
    · show Act.put _ (some 16) _ = _
      simp only [Act.put, List.setIfInBounds_toArray, List.set_cons_zero, List.set_cons_succ, i64_w, i32_w]
      rfl
    exact norm_ (by first | (simp only [putAll, Act.put, List.setIfInBounds_toArray, List.set_cons_zero, List.set_cons_succ]; done) | (simp only [putAll, Act.put, List.setIfInBounds_toArray, List.set_cons_zero, List.set_cons_succ]; rfl)) (hJ29_30_35_36_40_43_47_48_50_51 (x29, x30, x35, x36, x40, x43, x47, x48, x50, .pointer (some ⟨ga, 0, none⟩)) _ ⟨hb8, n29, n30, n35, n36, n40, n43, n47, n48, n50, g7, trivial⟩)
  rintro ⟨x29, x30, x35, x36, x40, x43, x47, x48, x50, x51⟩ w6 ⟨hb6, g29, g30, g35, g36, g40, g43, g47, g48, g50, g51, _⟩
  dsimp only at g29 g30 g35 g36 g40 g43 g47 g48 g50 g51
  have hHeld := hBF.below hb6
  obtain ⟨a30, q30, e_, h30, C30⟩ := id g30
  subst e_
  obtain ⟨a36, q36, e_, h36, C36⟩ := id g36
  subst e_
  obtain ⟨a40, q40, e_, h40, C40⟩ := id g40
  subst e_
  obtain ⟨a43, q43, e_, h43, C43⟩ := id g43
  subst e_
  obtain ⟨a48, q48, e_, h48, C48⟩ := id g48
  subst e_
  subst g50
  obtain ⟨ga, e_, hga, hpb⟩ := g51
  subst e_
  have z0 := (blk_cell hpb 0).trans (show _ = some (Value.slice none 0 0) from rfl)
  have z1 := (blk_cell hpb 1).trans (show _ = some (Value.slice none 0 0) from rfl)
  have z2 := (blk_cell hpb 2).trans (show _ = some (Value.slice none 0 0) from rfl)
  have z3 := (blk_cell hpb 3).trans (show _ = some (Value.slice none 0 0) from rfl)
  have z4 := (blk_cell hpb 4).trans (show _ = some (Value.slice none 0 0) from rfl)
  have z5 := (blk_cell hpb 5).trans (show _ = some (Value.slice none 0 0) from rfl)
  have z6 := (blk_cell hpb 6).trans (show _ = some (Value.slice none 0 0) from rfl)
  have z7 := (blk_cell hpb 7).trans (show _ = some (Value.slice none 0 0) from rfl)
  have fz0 := blk_frozen hpb 0
  have fz1 := blk_frozen hpb 1
  have fz2 := blk_frozen hpb 2
  have fz3 := blk_frozen hpb 3
  have fz4 := blk_frozen hpb 4
  have fz5 := blk_frozen hpb 5
  have fz6 := blk_frozen hpb 6
  have fz7 := blk_frozen hpb 7
  refine norm_ (a' := ?_) ?_ ?_
  rotate_left
  · simp only [putAll, Act.put, List.setIfInBounds_toArray, List.set_cons_zero, List.set_cons_succ]
    rfl
  refine one_ (i := 52) (N := none) #[true, true, true, true, true, true, true, true, true, true, true, true, true, true, true, true, true, true, true, true, true, true, true, true, true, true, true, true, true, true, true, true, true, true, true, true, true, true, true, true, true, true, true, true, true, true, true, true, true, true, true, true, true] rfl rfl (by kernel_rfl) (by decide) (fun K hK => ?_)
  refine skip_ (w1 := ?_) (by rfl) rfl ?_ ?_
  rotate_left
  · (go_simp; rfl)
  have hpb8 := (blk_put (blk_put (blk_put (blk_put (blk_put (blk_put (blk_put (blk_put hpb 0 (.slice a30 (numsL 0 (dimsL T)).length q30) rfl) 1 (.slice (some ⟨gc, 0, none⟩) 256 cc) rfl) 2 (.slice a36 (numsL 1 T.next.flatten).length q36) rfl) 3 (.slice a40 (numsL 1 T.rule).length q40) rfl) 4 (.slice a43 (numsL 0 T.terms).length q43) rfl) 5 (.slice AA BA.length cA) rfl) 6 (.slice a48 (numsL 1 T.goto.flatten).length q48) rfl) 7 (.slice Ab Bs.length cb) rfl)
  have hb8 := ((((((((hb6.setCell (p := ⟨ga, 0, none⟩) hga (.slice a30 (numsL 0 (dimsL T)).length q30)).setCell (p := ⟨ga, 1, none⟩) hga (.slice (some ⟨gc, 0, none⟩) 256 cc)).setCell (p := ⟨ga, 2, none⟩) hga (.slice a36 (numsL 1 T.next.flatten).length q36)).setCell (p := ⟨ga, 3, none⟩) hga (.slice a40 (numsL 1 T.rule).length q40)).setCell (p := ⟨ga, 4, none⟩) hga (.slice a43 (numsL 0 T.terms).length q43)).setCell (p := ⟨ga, 5, none⟩) hga (.slice AA BA.length cA)).setCell (p := ⟨ga, 6, none⟩) hga (.slice a48 (numsL 1 T.goto.flatten).length q48)).setCell (p := ⟨ga, 7, none⟩) hga (.slice Ab Bs.length cb))
  have hk8 := (((((((((KeepBut.refl w6 ga none).set_ 0 (.slice a30 (numsL 0 (dimsL T)).length q30)).set_ 1 (.slice (some ⟨gc, 0, none⟩) 256 cc)).set_ 2 (.slice a36 (numsL 1 T.next.flatten).length q36)).set_ 3 (.slice a40 (numsL 1 T.rule).length q40)).set_ 4 (.slice a43 (numsL 0 T.terms).length q43)).set_ 5 (.slice AA BA.length cA)).set_ 6 (.slice a48 (numsL 1 T.goto.flatten).length q48)).set_ 7 (.slice Ab Bs.length cb))
  have hnb := Z8_nb hpb
  generalize ((((((((w6.setCell ⟨ga, 0, none⟩ (.slice a30 (numsL 0 (dimsL T)).length q30)).setCell ⟨ga, 1, none⟩ (.slice (some ⟨gc, 0, none⟩) 256 cc)).setCell ⟨ga, 2, none⟩ (.slice a36 (numsL 1 T.next.flatten).length q36)).setCell ⟨ga, 3, none⟩ (.slice a40 (numsL 1 T.rule).length q40)).setCell ⟨ga, 4, none⟩ (.slice a43 (numsL 0 T.terms).length q43)).setCell ⟨ga, 5, none⟩ (.slice AA BA.length cA)).setCell ⟨ga, 6, none⟩ (.slice a48 (numsL 1 T.goto.flatten).length q48)).setCell ⟨ga, 7, none⟩ (.slice Ab Bs.length cb)) = w8 at hpb8 hb8 hk8 ⊢
  clear z0 fz0 z1 fz1 z2 fz2 z3 fz3 z4 fz4 z5 fz5 z6 fz6 z7 fz7
  refine hK.out _ _ ((hBF.below hb8)) (fun hHeld => ?_)
  clear hK K
  refine done_ (by kernel_rfl) ?_
  obtain ⟨V8, hV8⟩ : ∃ V : List Value, V = [.slice a30 (numsL 0 (dimsL T)).length q30, .slice (some ⟨gc, 0, none⟩) 256 cc, .slice a36 (numsL 1 T.next.flatten).length q36, .slice a40 (numsL 1 T.rule).length q40, .slice a43 (numsL 0 T.terms).length q43, .slice AA BA.length cA, .slice a48 (numsL 1 T.goto.flatten).length q48, .slice Ab Bs.length cb] := ⟨_, rfl⟩
  have hpv : w8.heap[ga]? = some (.cells V8.toArray 61 (0, 0)) := by rw [hV8]; exact hpb8
  have HGV := Aside0.mk (show GV w8 V8 (secL T) from by
    rw [hV8]
    have q1 := Sep.bytes s5 1 rfl
    have q2 := Sep.bytes s5 2 rfl
    have q3 := Sep.bytes s5 3 rfl
    have hA := HBA.out
    have hP := HBP.out
    subst hA
    subst hP
    exact GV.cons rfl h30 (CB.keep C30 hnb hk8) (GV.cons q1.1 q1.2.2 (Kd.C_below q1.2.1 hb8) (GV.cons rfl h36 (CB.keep C36 hnb hk8) (GV.cons rfl h40 (CB.keep C40 hnb hk8) (GV.cons rfl h43 (CB.keep C43 hnb hk8) (GV.cons rfl q2.2.2 (Kd.C_below q2.2.1 hb8) (GV.cons rfl h48 (CB.keep C48 hnb hk8) (GV.cons rfl q3.2.2 (Kd.C_below q3.2.1 hb8) (GV.nil _)))))))))
  have HB8 := Aside0.mk (below_step hB5 hb8)
  have HVL := Aside0.mk (show V8.length = 8 from by rw [hV8]; rfl)
  have HRV := Aside0.mk (show w8.rangeAt ga 0 V8 from fun j v hv => by rw [Nat.zero_add, blk_cell hpv j, List.getElem?_toArray]; exact hv)
  have HBIG := Aside0.mk (secL_big M HCL.out)
  have HOK := Aside0.mk (secL_OK (T := T) (fun _ _ => trivial))
  clear hV8 hpv hpb8 hb8 hk8 hnb h30 C30 h36 C36 h40 C40 h43 C43 h48 C48 s5 hB5 HBA HBP hBF0 hBF hHeld HD HFD HFN HFR HFT HFG q1 q1n q4 q4n q5 q5n HCN HCG hga hpb
  go_wp2_with (first | ((with_reducible refine gate_dst (N := 130) rfl ?_); refine wpList_load_mid rfl 61 (.tmp 16) rfl ga 0 rfl V8 _ HRV.out Try.underlying61 rfl (by rw [HVL.out]; exact size61) ?_))
  go_loopg [17, 131] 9 (fun kq v17 v131 w' => ∃ (i : Int) (A : Option Addr) (c : Nat), v131 = .int .i64 i ∧ v17 = .slice A i.toNat c ∧ Aside0 (0 ≤ i) ∧ Aside0 (i ≤ 8) ∧ Aside0 ((kq : Int) + i = 9) ∧ Aside0 (Kd.N k48 48 w' w8.heap.size (fun _ => True) (.slice A i.toNat c) ((secL T).take i.toNat)) ∧ Aside0 (Below w8.heap.size w8 w'))
  case atStart => exact ⟨0, none, 0, rfl, rfl, ⟨by decide⟩, ⟨by decide⟩, ⟨by decide⟩, ⟨Kd.N_nil _ _ _ _ _⟩, ⟨Below.refl _ _⟩⟩
  obtain ⟨i, A, c, rfl, rfl, hi0, hi1, hk, hN, hB⟩ := hrel
  have hkk := hk.out
  by_cases hlt : i < 8
  · have l9 : decide (i < 8) = true := decide_eq_true hlt
    have hwi : IntKind.i64.wrap (i + 1) = i + 1 := by have := hi0.out; simp only [i64_w]; unfold wrap64; omega
    obtain ⟨⟨s0, sl⟩, hs⟩ : ∃ s, (secL T)[i.toNat]? = some s := ⟨_, List.getElem?_eq_getElem (by show i.toNat < 8; have := hi0.out; omega)⟩
    have hs0 : s0 = i + 1 := (secL_tag T i.toNat _ hs).trans (by have := hi0.out; omega)
    subst hs0
    obtain ⟨As, cs, hv, hc, hC⟩ := HGV.out.2 _ _ hs
    dsimp only at hv hc hC
    have hx := fun W => idx_V8 HVL.out i hi0.out hlt hv W
    have HFK := Aside0.mk (show Kd.FK k48 wr (fun k => k < w8.heap.size) (⟨i + 1, sl⟩ : S48) [.int .i64 (i + 1), .slice As sl.length cs] from k48_mkF wr _ ⟨i + 1, sl⟩ hc (Kd.F_below (Kd.C_F (Kd.heap_int .u8) hC) hB.out))
    have HTK := Aside0.mk (show (secL T).take (i + 1).toNat = (secL T).take i.toNat ++ [(⟨i + 1, sl⟩ : S48)] from by
      rw [show (i + 1).toNat = i.toNat + 1 by have := hi0.out; omega, List.take_add_one, hs]
      rfl)
    have HLT := Aside0.mk hlt
    have HLN := Aside0.mk (show ((secL T).take i.toNat).length = i.toNat from by rw [List.length_take]; show min i.toNat 8 = _; have := hi0.out; omega)
    clear hlt hv hc hC hs
    have p9 := eq_true hi0.out
    have q9 := eq_true HLT.out
    go_wp2_with (first | ((with_reducible refine gate_builtin (b := .append) (xs := #[.tmp 135, .tmp 140]) rfl ?_); at_builtin; refine Kd.N_append k48 (w0 := w8) w8.heap.size rfl (.tmp 135) (.tmp 140) 49 48 (.agg #[(.int .i64 0), (.slice none 0 0)]) 32 rfl Try.underlying49 info48 rfl (by decide) (by omega) (.slice A i.toNat c) ((secL T).take i.toNat) (⟨i + 1, sl⟩ : S48) [.int .i64 (i + 1), .slice As sl.length cs] (fun _ => True) (fun k => k < w8.heap.size) rfl rfl HFK.out (fun k hk => ⟨trivial, fun he => by have := Kd.N_base hN.out k he.symm; omega⟩) (fun _ _ => trivial) hN.out hB.out hB.out.size (by rw [HLN.out]; have := HLT.out; omega) ?_; intro v9 w9 hN9 hB9 hg9 hat9; rw [← HTK.out] at hN9; obtain ⟨A9, c9, e9⟩ := Kd.N_slice hN9; rw [HTK.out, List.length_append, HLN.out, List.length_singleton] at e9; subst e9))
    go_roundg (gk - 1)
    case measure => have := HLT.out; have := hi0.out; omega
    case rel => exact ⟨i + 1, A9, c9, rfl, by congr 1; have := hi0.out; omega, ⟨by have := hi0.out; omega⟩, ⟨by have := HLT.out; omega⟩, ⟨by have := HLT.out; omega⟩, ⟨by rw [show (i + 1).toNat = i.toNat + 1 by have := hi0.out; omega] at hN9 ⊢; exact hN9⟩, ⟨hB9⟩⟩
  have l9 : decide (i < 8) = false := decide_eq_false hlt
  obtain rfl : i = 8 := by have := hi1.out; omega
  have HC := Aside0.mk (Kd.N_reads' hN.out)
  clear hkk hk hi0 hi1 hlt hN
  rw [show (secL T).take (8 : Int).toNat = secL T from rfl] at HC
  go_wp2_with (first | (go_at_call 16; refine (pack_n 1 (secL T) A 8 c _ rfl (by decide) HOK.out HBIG.out HC.out.2.2 HC.out.2.1).mono ?_; rintro e w10 ⟨v10, rfl, hR10, hb10⟩))
  go_ret2
  rw [HF.out]
  exact ⟨_, rfl, Kd.R_lower hR10 (below_step HB8.out hB.out).size, below_step (below_step HB8.out hB.out) hb10⟩
end Go.Proofs.Ytkeekganabafbaa.X
end
