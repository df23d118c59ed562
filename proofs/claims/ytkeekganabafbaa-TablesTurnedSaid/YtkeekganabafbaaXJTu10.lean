import Derived.DeepKeys
import Derived.Test.YtkeekganabafbaaXJTu3
import Derived.Test.YtkeekganabafbaaXJTu4
import Derived.Test.YtkeekganabafbaaXJTu2
/- Texts of this claim, joined. -/
section
namespace Go.Proofs.Ytkeekganabafbaa.X
open Go.RowKit Go.Proofs.YtkeekganabafbaaW.PrintWords Go.Proofs.YtkeekganabafbaaW.PrintLast Go.Proofs.YtkeekganabafbaaW.PrintMore
attribute [local go_sem] max2_int min2_int max_two min_two max_three min_three max_four min_four
set_option linter.unusedVariables false
set_option linter.unusedSimpArgs false
theorem mapM_some_ {α β : Type} (f : α → Option β) (h : α → β) : ∀ l : List α, (∀ x ∈ l, f x = some (h x)) → l.mapM f = some (l.map h)
  | [], _ => rfl
  | a :: l, hx => by
    rw [List.mapM_cons, hx a (by simp), mapM_some_ f h l (fun x hm => hx x (by simp [hm]))]
    rfl
theorem map_inj_ {α β : Type} {f : α → β} (hf : ∀ x y, f x = f y → x = y) : ∀ a b : List α, a.map f = b.map f → a = b
  | [], [], _ => rfl
  | [], y :: b, h => by simp at h
  | x :: a, [], h => by simp at h
  | x :: a, y :: b, h => by
    rw [List.map_cons, List.map_cons] at h
    injection h with h1 h2
    rw [hf x y h1, map_inj_ hf a b h2]
theorem lits_cls (l : List Int) (h : l.length = 256) (hw : ∀ k ∈ l, (Lit.int .i64 k).wf = true) : Try.prog.keyLits 2 22 (l.map (Value.int .i64)) = some (l.map (Lit.int .i64)) := by
  have c22 : Try.prog.cellsOf 22 = 256 := by kernel_rfl
  have c3 : Try.prog.cellsOf 3 = 1 := by kernel_rfl
  unfold Program.keyLits
  simp only [Try.underlying22]
  rw [if_pos (by rw [List.length_map, h, c22]), c3]
  rw [mapM_some_ _ (fun i => [Lit.int .i64 (l.getD i 0)]) (List.range 256) (fun i hi => by
    have hi' : i < l.length := by rw [h]; exact List.mem_range.1 hi
    have e1 : ((l.map (Value.int .i64)).drop (i * 1)).take 1 = [Value.int .i64 (l.getD i 0)] := by
      rw [Nat.mul_one, List.drop_eq_getElem_cons (by rw [List.length_map]; exact hi'), List.getD_eq_getElem?_getD, List.getElem?_eq_getElem hi']
      simp
    rw [e1]
    unfold Program.keyLits
    simp only [Try.underlying3]
    rw [if_pos ⟨trivial, by rw [List.getD_eq_getElem?_getD, List.getElem?_eq_getElem hi']; exact hw _ (List.getElem_mem hi')⟩])]
  simp only [Option.map_some, Option.some.injEq]
  have e2 : ∀ (r : List Nat), (r.map (fun i => [Lit.int .i64 (l.getD i 0)])).flatten = r.map (fun i => Lit.int .i64 (l.getD i 0)) := by
    intro r
    induction r with
    | nil => rfl
    | cons a r ih => rw [List.map_cons, List.flatten_cons, ih]; rfl
  rw [e2]
  apply List.ext_getElem
  · simp [h]
  intro i h1 h2
  have hi' : i < l.length := by simpa using h2
  simp [List.getElem?_eq_getElem hi']
theorem cls_eq (a b : List Int) (ha : a.length = 256) (hb : b.length = 256) (hwa : ∀ k ∈ a, (Lit.int .i64 k).wf = true) (hwb : ∀ k ∈ b, (Lit.int .i64 k).wf = true) (w : World) :
    ∃ r : Bool, (Op.equalIn 10000 22 (.agg (a.map (Value.int .i64)).toArray) (.agg (b.map (Value.int .i64)).toArray)).run Try.prog w = .ok r w ∧ (r = true ↔ a = b) := by
  have c22 : Try.prog.cellsOf 22 = 256 := by kernel_rfl
  have hk : Try.prog.keyTypeAt 2 22 = true := by kernel_rfl
  obtain ⟨r, hr, hi⟩ := run_equalIn_deep (P := Try.prog) 9998 2 22 hk w 2 2 (.agg (a.map (Value.int .i64)).toArray) (.agg (b.map (Value.int .i64)).toArray) _ _
    (by simp only [Value.formed, Try.underlying22, c22]; simp [ha]) (by simp only [Value.formed, Try.underlying22, c22]; simp [hb]) (lits_cls a ha hwa) (lits_cls b hb hwb)
  refine ⟨r, hr, hi.trans ⟨fun h => ?_, fun h => by rw [h]⟩⟩
  exact map_inj_ (fun x y hxy => by injection hxy) a b h
theorem eqz_loop (x y : List Int) (h : y.length = x.length) (hl : x.length ≤ 9223372036854775806) : ∀ n i : Nat, i + n = x.length → ∃ r, slices_Equal_int_int.l0 (n + 1) x y (x.length : Int) (i : Int) = some r ∧ (r = true ↔ x.drop i = y.drop i) := by
  intro n
  induction n with
  | zero =>
    intro i hi
    unfold slices_Equal_int_int.l0
    rw [if_neg (by omega)]
    exact ⟨true, rfl, by rw [List.drop_eq_nil_of_le (by omega), List.drop_eq_nil_of_le (by omega)]; simp⟩
  | succ n ih =>
    intro i hi
    unfold slices_Equal_int_int.l0
    rw [if_pos (by omega), if_pos (by omega), if_pos (by omega), if_pos (by omega)]
    have hx : x.drop i = rd x (i : Int) :: x.drop (i + 1) := by
      have := drop_at x (0 : Int) (i : Int) (by omega) (by omega)
      rwa [Int.toNat_natCast, show ((i : Int) + 1).toNat = i + 1 by omega] at this
    have hy : y.drop i = rd y (i : Int) :: y.drop (i + 1) := by
      have := drop_at y (0 : Int) (i : Int) (by omega) (by omega)
      rwa [Int.toNat_natCast, show ((i : Int) + 1).toNat = i + 1 by omega] at this
    by_cases he : rd x (i : Int) = rd y (i : Int)
    · rw [if_pos he, show wrap64 ((i : Int) + 1) = ((i + 1 : Nat) : Int) from by unfold wrap64; omega]
      obtain ⟨r, h1, h2⟩ := ih (i + 1) (by omega)
      refine ⟨r, h1, h2.trans ?_⟩
      rw [hx, hy, he]
      simp
    rw [if_neg he]
    refine ⟨false, rfl, ?_⟩
    rw [hx, hy]
    simp [he]
theorem eqz_some (x y : List Int) (hl : x.length ≤ 9223372036854775806) : ∃ k r, slices_Equal_int_int.f k x y = some r ∧ (r = true ↔ x = y) := by
  unfold slices_Equal_int_int.f
  by_cases h : (x.length : Int) = (y.length : Int)
  · obtain ⟨r, h1, h2⟩ := eqz_loop x y (by omega) hl x.length 0 (by omega)
    exact ⟨x.length + 1, r, by rw [if_pos h]; exact h1, by simpa using h2⟩
  exact ⟨0, false, by rw [if_neg h], by simp; intro e; exact h (by rw [e])⟩
theorem s38_ext {a b : S38} (h0 : a.f0 = b.f0) (h1 : a.f1 = b.f1) : a = b := by
  cases a; cases b; simp_all
theorem eqa_loop (x y : List S38) (h : y.length = x.length) (hl : x.length ≤ 9223372036854775806) : ∀ n i : Nat, i + n = x.length → ∃ r, api_Act_29.l0 (n + 1) x y (x.length : Int) (i : Int) = some r ∧ (r = true ↔ x.drop i = y.drop i) := by
  intro n
  induction n with
  | zero =>
    intro i hi
    unfold api_Act_29.l0
    rw [if_neg (by omega)]
    exact ⟨true, rfl, by rw [List.drop_eq_nil_of_le (by omega), List.drop_eq_nil_of_le (by omega)]; simp⟩
  | succ n ih =>
    intro i hi
    unfold api_Act_29.l0
    rw [if_pos (by omega), if_pos (by omega), if_pos (by omega), if_pos (by omega)]
    have hx : x.drop i = rd_T38 x (i : Int) :: x.drop (i + 1) := by
      have := drop_at x z38 (i : Int) (by omega) (by omega)
      rwa [Int.toNat_natCast, show ((i : Int) + 1).toNat = i + 1 by omega] at this
    have hy : y.drop i = rd_T38 y (i : Int) :: y.drop (i + 1) := by
      have := drop_at y z38 (i : Int) (by omega) (by omega)
      rwa [Int.toNat_natCast, show ((i : Int) + 1).toNat = i + 1 by omega] at this
    by_cases he : (rd_T38 x (i : Int)).f0 = (rd_T38 y (i : Int)).f0 ∧ (rd_T38 x (i : Int)).f1 = (rd_T38 y (i : Int)).f1
    · rw [if_neg (by rw [he.1, he.2]; simp), show wrap64 ((i : Int) + 1) = ((i + 1 : Nat) : Int) from by unfold wrap64; omega]
      obtain ⟨r, h1, h2⟩ := ih (i + 1) (by omega)
      refine ⟨r, h1, h2.trans ?_⟩
      rw [hx, hy, s38_ext he.1 he.2]
      simp
    rw [if_pos (by
      by_cases h0 : (rd_T38 x (i : Int)).f0 = (rd_T38 y (i : Int)).f0
      · have h1 : ¬ (rd_T38 x (i : Int)).f1 = (rd_T38 y (i : Int)).f1 := fun h1 => he ⟨h0, h1⟩
        simp [h1]
      simp [h0])]
    refine ⟨false, rfl, ?_⟩
    rw [hx, hy]
    simp
    intro e
    exact absurd ⟨by rw [e], by rw [e]⟩ he
theorem eqa_some (x y : List S38) (hl : x.length ≤ 9223372036854775806) : ∃ k r, api_Act_29.f k x y = some r ∧ (r = true ↔ x = y) := by
  unfold api_Act_29.f
  by_cases h : (x.length : Int) = (y.length : Int)
  · obtain ⟨r, h1, h2⟩ := eqa_loop x y (by omega) hl x.length 0 (by omega)
    exact ⟨x.length + 1, r, by rw [if_pos h]; exact h1, by simpa using h2⟩
  exact ⟨0, false, by rw [if_neg h], by simp; intro e; exact h (by rw [e])⟩
theorem eqz_n (x y : List Int) (A B : Option Addr) (n c m d : Nat) (w : World) (hn : x.length = n) (hC : Kd.C (Kd.int .i64) w A n x) (hc : n ≤ c) (hm : y.length = m) (hD : Kd.C (Kd.int .i64) w B m y) (hd : m ≤ d) (hl : n ≤ 9223372036854775806) :
    Calls Try.prog 26 #[.slice A n c, .slice B m d] w fun e w' => ∃ r : Bool, e = .returned (.bool r) ∧ (r = true ↔ x = y) ∧ Below w.heap.size w w' := by
  subst hn
  subst hm
  obtain ⟨k, r, h1, h2⟩ := eqz_some x y hl
  refine (slices_Equal_int_int.calls k A c x B d y r w hC hc hD hd h1).mono ?_
  rintro e w' ⟨rfl, h⟩
  exact ⟨r, rfl, h2, h.below⟩
theorem eqa_n (x y : List S38) (A B : Option Addr) (n c m d : Nat) (w : World) (hn : x.length = n) (hC : Kd.C k38 w A n x) (hc : n ≤ c) (hm : y.length = m) (hD : Kd.C k38 w B m y) (hd : m ≤ d) (hl : n ≤ 9223372036854775806) :
    Calls Try.prog 29 #[.slice A n c, .slice B m d] w fun e w' => ∃ r : Bool, e = .returned (.bool r) ∧ (r = true ↔ x = y) ∧ Below w.heap.size w w' := by
  subst hn
  subst hm
  obtain ⟨k, r, h1, h2⟩ := eqa_some x y hl
  refine (api_Act_29.calls k A c x B d y r w hC hc hD hd h1).mono ?_
  rintro e w' ⟨rfl, h⟩
  exact ⟨r, rfl, h2, h.below⟩
end Go.Proofs.Ytkeekganabafbaa.X
end
