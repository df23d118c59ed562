/- In whichever pieces bytes come, the same is answered. -/
import Derived.Test.YtkndghbognhocaaXFrSep2
namespace Go.Proofs.Ytkndghbognhocaa.Pure
set_option linter.unusedVariables false
set_option linter.unusedSimpArgs false
open Go.RowKit Go.Proofs.Ytkndghbognhocaa.X Go.Proofs.YtkndghbognhocaaW.PrintWords Go.Proofs.YtkndghbognhocaaW.PrintLast Go.Proofs.YtkndghbognhocaaW.PrintMore
/-- how many answers there may be -/
def mu (l : List Int) (t : Bool) : Nat := 2 * (l.length / 13) + (if t = true then 0 else 1)
theorem begins_append {m : List Int} (l : List Int) (h : 9 ≤ m.length) : beginsI (m ++ l) = beginsI m := by
  obtain ⟨a, b, c, d, e, t, rfl⟩ := five m (by omega)
  have h2 : (a :: b :: c :: d :: e :: t ++ l).take 2 = (a :: b :: c :: d :: e :: t).take 2 := rfl
  have h9 : (a :: b :: c :: d :: e :: t ++ l).take 9 = (a :: b :: c :: d :: e :: t).take 9 := by rw [List.take_append_of_le_length h]
  have h5 : (a :: b :: c :: d :: e :: t ++ l).take 5 = (a :: b :: c :: d :: e :: t).take 5 := rfl
  have hl1 : ¬ (a :: b :: c :: d :: e :: t ++ l).length < 9 := by rw [List.length_append]; omega
  have hl2 : ¬ (a :: b :: c :: d :: e :: t).length < 9 := by omega
  have hm1 : ([73, 81] : List Int).take (a :: b :: c :: d :: e :: t ++ l).length = [73, 81] := List.take_of_length_le (by simp)
  have hm2 : ([73, 81] : List Int).take (a :: b :: c :: d :: e :: t).length = [73, 81] := List.take_of_length_le (by simp)
  unfold beginsI
  rw [h2, h9, h5, decide_eq_false hl1, decide_eq_false hl2, hm1, hm2]
  rfl
theorem skip_skip (l r : List Int) : skipL (l ++ r) = skipL (skipL l ++ r) := by
  induction l with
  | nil => rfl
  | cons x l ih =>
    by_cases h : beginsI (x :: l) = true
    · rw [skip_begins h]
    · have h1 : skipL (x :: l) = skipL l := by rw [skipL, if_neg h]
      rw [h1]
      by_cases h2 : beginsI (x :: (l ++ r)) = true
      · -- the head would begin with what comes behind alone: not so
        exfalso
        apply h
        have h73 := begins_head h2
        unfold beginsI at h2 ⊢
        rw [Bool.and_eq_true, decide_eq_true_eq] at h2 ⊢
        obtain ⟨h3, h4⟩ := h2
        refine ⟨?_, ?_⟩
        · cases l with
          | nil => subst h73; rfl
          | cons y l =>
            have e1 : (x :: (y :: l ++ r)).take 2 = [x, y] := rfl
            rw [e1, List.take_of_length_le (by simp)] at h3
            rw [show (x :: y :: l).take 2 = [x, y] from rfl, h3, List.take_of_length_le (by simp)]
        · by_cases h9 : (x :: l).length < 9
          · rw [decide_eq_true h9, Bool.true_or]
          · have hb := begins_append r (m := x :: l) (by omega)
            rw [show (x :: l ++ r : List Int) = x :: (l ++ r) from rfl] at hb
            unfold beginsI at hb
            have h2' : beginsI (x :: (l ++ r)) = true := by
              unfold beginsI
              rw [Bool.and_eq_true, decide_eq_true_eq]
              exact ⟨h3, h4⟩
            have h5 := begins_append r (m := x :: l) (by omega)
            rw [show (x :: l ++ r : List Int) = x :: (l ++ r) from rfl, h2'] at h5
            have h6 := h5.symm
            unfold beginsI at h6
            rw [Bool.and_eq_true] at h6
            exact h6.2
      · show skipL (x :: (l ++ r)) = _
        rw [skipL, if_neg h2]
        exact ih
theorem skip_idem (l : List Int) : skipL (skipL l) = skipL l := by
  have := skip_skip l []
  rw [List.append_nil, List.append_nil] at this
  exact this.symm
theorem skip_cases (l : List Int) : skipL l = [] ∨ beginsI (skipL l) = true := by
  induction l with
  | nil => exact .inl rfl
  | cons x l ih =>
    rw [skipL]
    split
    · next h => exact .inr h
    · exact ih
theorem skip_long {l r : List Int} (h : 9 ≤ (skipL l).length) : skipL (l ++ r) = skipL l ++ r := by
  rw [skip_skip]
  rcases skip_cases l with h0 | h0
  · rw [h0] at h; simp at h
  · exact skip_begins (by rw [begins_append r h]; exact h0)
theorem size_append {m : List Int} (r : List Int) (h : 5 ≤ m.length) : sizeN (m ++ r) = sizeN m := by
  obtain ⟨a, b, c, d, e, t, rfl⟩ := five m h
  rfl
theorem skip_full {l : List Int} (h : ¬ (skipL l).length < l.length) : skipL l = l := by
  have h1 := skip_drop l
  have h2 := skip_le l
  rw [show l.length - (skipL l).length = 0 by omega] at h1
  exact h1
/-- told already: what is skipped is not told again -/
theorem next_told (l : List Int) : nextI l true = nextI (skipL l) true := by
  unfold nextI
  simp only [skip_idem]
  rw [if_neg (show ¬ ((skipL l).length < l.length ∧ true = false) from fun h => by cases h.2), if_neg (show ¬ ((skipL l).length < (skipL l).length ∧ true = false) from fun h => by cases h.2)]
theorem next_none {l : List Int} {t : Bool} (h : (nextI l t).1.2.1 = false ∧ (nextI l t).1.2.2 = 0) : (nextI l t).2 = (skipL l, t) ∧ (t = false → skipL l = l) ∧ ((skipL l).length < 9 ∨ (skipL l).length < 13 + sizeN (skipL l)) := by
  have hs := @skip_full l
  unfold nextI at h ⊢
  simp only [] at h ⊢
  split at h
  · exact absurd h.2 (by simp)
  · next h1 =>
    have hf : t = false → skipL l = l := fun ht => hs (fun h2 => h1 ⟨h2, ht⟩)
    split at h
    · next h9 => exact ⟨by rw [if_neg h1, if_pos h9], hf, .inl h9⟩
    · next h9 =>
      split at h
      · next hw => exact ⟨by rw [if_neg h1, if_neg h9, if_pos hw], hf, .inr hw⟩
      · split at h
        · exact absurd h.1 (by simp)
        · exact absurd h.2 (by simp)
/-- an answer: told of what stands between, or a frame (good or not) is taken away -/
theorem next_some {l : List Int} {t : Bool} (h : ¬ ((nextI l t).1.2.1 = false ∧ (nextI l t).1.2.2 = 0)) :
    (t = false ∧ (skipL l).length < l.length ∧ nextI l t = (([], false, 4), skipL l, true)) ∨
    ((t = false → skipL l = l) ∧ 13 + sizeN (skipL l) ≤ (skipL l).length ∧ (nextI l t).2 = ((skipL l).drop (13 + sizeN (skipL l)), false) ∧ ∀ r, nextI (l ++ r) t = ((nextI l t).1, (nextI l t).2.1 ++ r, false)) := by
  have hs := @skip_full l
  by_cases h1 : (skipL l).length < l.length ∧ t = false
  · left
    refine ⟨h1.2, h1.1, ?_⟩
    unfold nextI
    simp only []
    rw [if_pos h1]
  · right
    have hf : t = false → skipL l = l := fun ht => hs (fun h2 => h1 ⟨h2, ht⟩)
    by_cases h9 : (skipL l).length < 9
    · exfalso; apply h; unfold nextI; simp only []; rw [if_neg h1, if_pos h9]; exact ⟨rfl, rfl⟩
    · by_cases hw : (skipL l).length < 13 + sizeN (skipL l)
      · exfalso; apply h; unfold nextI; simp only []; rw [if_neg h1, if_neg h9, if_pos hw]; exact ⟨rfl, rfl⟩
      · refine ⟨hf, by omega, ?_, fun r => ?_⟩
        · unfold nextI
          simp only []
          rw [if_neg h1, if_neg h9, if_neg hw]
          split <;> rfl
        · have hsk : skipL (l ++ r) = skipL l ++ r := skip_long (by omega)
          have hsz := size_append (m := skipL l) r (by omega)
          have h1' : ¬ ((skipL l ++ r).length < (l ++ r).length ∧ t = false) := by
            rintro ⟨h2, h3⟩
            rw [hf h3] at h2
            exact Nat.lt_irrefl _ h2
          have h9' : ¬ (skipL l ++ r).length < 9 := by rw [List.length_append]; omega
          have hw' : ¬ (skipL l ++ r).length < 13 + sizeN (skipL l) := by rw [List.length_append]; omega
          unfold nextI
          simp only [hsk, hsz]
          rw [if_neg h1, if_neg h9, if_neg hw, if_neg h1', if_neg h9', if_neg hw', List.take_append_of_le_length (by omega), List.take_append_of_le_length (by omega), List.drop_append_of_le_length (by omega)]
          split <;> rfl
theorem mu_next {l : List Int} {t : Bool} (h : ¬ ((nextI l t).1.2.1 = false ∧ (nextI l t).1.2.2 = 0)) : mu (nextI l t).2.1 (nextI l t).2.2 < mu l t := by
  have hle := skip_le l
  rcases next_some h with ⟨rfl, h1, h2⟩ | ⟨_, h1, h2, _⟩
  · rw [h2]
    unfold mu
    simp only [if_pos, Bool.false_eq_true, if_false]
    have : (skipL l).length / 13 ≤ l.length / 13 := Nat.div_le_div_right hle
    omega
  · rw [h2]
    unfold mu
    simp only [Bool.false_eq_true, if_false]
    rw [List.length_drop]
    have : ((skipL l).length - (13 + sizeN (skipL l))) / 13 + 1 ≤ l.length / 13 := by omega
    split <;> omega
theorem all_succ (n : Nat) : ∀ (l : List Int) (t : Bool), mu l t < n → allI (n + 1) l t = allI n l t := by
  induction n with
  | zero => intro l t h; omega
  | succ n ih =>
    intro l t h
    rw [allI_succ (n + 1) l t, allI_succ n l t]
    by_cases hn : (nextI l t).1.2.1 = false ∧ (nextI l t).1.2.2 = 0
    · rw [if_pos hn, if_pos hn]
    · rw [if_neg hn, if_neg hn]
      have hm := mu_next hn
      rw [ih _ _ (by omega)]
def allC (l : List Int) (t : Bool) : List S49 × List Int × Bool := allI (mu l t + 1) l t
/-- rounds enough: the answers do not hang on how many -/
theorem all_more (d : Nat) (l : List Int) (t : Bool) : allI (mu l t + 1 + d) l t = allC l t := by
  induction d with
  | zero => rfl
  | succ d ih => rw [← ih]; exact all_succ (mu l t + 1 + d) l t (by omega)
theorem allC_none {l : List Int} {t : Bool} (h : (nextI l t).1.2.1 = false ∧ (nextI l t).1.2.2 = 0) : allC l t = ([], (nextI l t).2.1, (nextI l t).2.2) := by
  unfold allC
  rw [allI_succ, if_pos h]
theorem allC_some {l : List Int} {t : Bool} (h : ¬ ((nextI l t).1.2.1 = false ∧ (nextI l t).1.2.2 = 0)) :
    allC l t = (⟨(nextI l t).1.1, (nextI l t).1.2.1, (nextI l t).1.2.2⟩ :: (allC (nextI l t).2.1 (nextI l t).2.2).1, (allC (nextI l t).2.1 (nextI l t).2.2).2) := by
  have hm := mu_next h
  unfold allC
  rw [allI_succ, if_neg h]
  have := all_more (mu l t - (mu (nextI l t).2.1 (nextI l t).2.2 + 1)) (nextI l t).2.1 (nextI l t).2.2
  rw [show mu (nextI l t).2.1 (nextI l t).2.2 + 1 + (mu l t - (mu (nextI l t).2.1 (nextI l t).2.2 + 1)) = mu l t by omega] at this
  rw [this]
  rfl
/-- what is told already and skipped is the same -/
theorem allC_told {l l' : List Int} (h : skipL l = skipL l') : allC l true = allC l' true := by
  have h1 : nextI l true = nextI l' true := by rw [next_told l, next_told l', h]
  by_cases hn : (nextI l true).1.2.1 = false ∧ (nextI l true).1.2.2 = 0
  · rw [allC_none (l := l) hn, allC_none (l := l') (t := true) (h1 ▸ hn), h1]
  · rw [allC_some (l := l) hn, allC_some (l := l') (t := true) (h1 ▸ hn), h1]
/-- THE STAGE'S THEOREM in plain lists: bytes that come in two pieces -/
theorem pieces (n : Nat) : ∀ (l : List Int) (t : Bool) (r : List Int), mu l t < n → allC (l ++ r) t = ((allC l t).1 ++ (allC ((allC l t).2.1 ++ r) (allC l t).2.2).1, (allC ((allC l t).2.1 ++ r) (allC l t).2.2).2) := by
  induction n with
  | zero => intro l t r h; omega
  | succ n ih =>
    intro l t r h
    by_cases hn : (nextI l t).1.2.1 = false ∧ (nextI l t).1.2.2 = 0
    · obtain ⟨h1, h2, _⟩ := next_none hn
      rw [allC_none hn, h1]
      simp only [List.nil_append]
      show _ = allC (skipL l ++ r) t
      cases t with
      | false => rw [h2 rfl]
      | true => exact allC_told (skip_skip l r)
    · have hm := mu_next hn
      rcases next_some hn with ⟨rfl, h1, h2⟩ | ⟨h1, h2, h3, h4⟩
      · have hk : nextI (l ++ r) false = (([], false, 4), skipL (l ++ r), true) := by
          unfold nextI
          simp only []
          rw [if_pos]
          have h5 := skip_skip l r
          have h6 := skip_le (skipL l ++ r)
          rw [← h5, List.length_append] at h6
          rw [List.length_append]
          exact ⟨by omega, trivial⟩
        have hn2 : ¬ ((nextI (l ++ r) false).1.2.1 = false ∧ (nextI (l ++ r) false).1.2.2 = 0) := by rw [hk]; simp
        rw [allC_some hn2, allC_some hn, hk, h2]
        rw [h2] at hm
        dsimp only at hm
        have h7 := ih (skipL l) true r (by omega)
        have h8 : allC (skipL (l ++ r)) true = allC (skipL l ++ r) true := allC_told (by rw [skip_idem, skip_skip])
        dsimp only
        rw [h8, h7]
        rfl
      · have h5 := h4 r
        have hn2 : ¬ ((nextI (l ++ r) t).1.2.1 = false ∧ (nextI (l ++ r) t).1.2.2 = 0) := by rw [h5]; exact hn
        have h6 : (nextI l t).2.2 = false := by rw [h3]
        rw [allC_some hn2, allC_some hn, h5]
        dsimp only
        have h7 := ih (nextI l t).2.1 (nextI l t).2.2 r (by omega)
        rw [h6] at h7 ⊢
        rw [h7]
        rfl
theorem mu_le (l : List Int) (t : Bool) (h : l.length ≤ 3000) : mu l t ≤ 999 := by
  unfold mu
  split <;> omega
theorem all_C (l : List Int) (t : Bool) (h : l.length ≤ 3000) : allI 1000 l t = allC l t := by
  have h1 := mu_le l t h
  have := all_more (999 - mu l t) l t
  rwa [show mu l t + 1 + (999 - mu l t) = 1000 by omega] at this
theorem allC_len (l : List Int) (t : Bool) (n : Nat) : ∀ l t, mu l t < n → (allC l t).2.1.length ≤ l.length := by
  induction n with
  | zero => intro l t h; omega
  | succ n ih =>
    intro l t h
    by_cases hn : (nextI l t).1.2.1 = false ∧ (nextI l t).1.2.2 = 0
    · rw [allC_none hn]; exact (next_le l t).1
    · rw [allC_some hn]
      have hm := mu_next hn
      exact Nat.le_trans (ih _ _ (by omega)) (next_le l t).1
theorem allC_BI (n : Nat) : ∀ l t, mu l t < n → BI l → BI (allC l t).2.1 := by
  induction n with
  | zero => intro l t h; omega
  | succ n ih =>
    intro l t h hB
    by_cases hn : (nextI l t).1.2.1 = false ∧ (nextI l t).1.2.2 = 0
    · rw [allC_none hn]; exact (next_BI hB t).2
    · rw [allC_some hn]
      have hm := mu_next hn
      exact ih _ _ (by omega) (next_BI hB t).2
/-- one piece more -/
theorem piece_step {A : List S49} {W : List S49 × List Int × Bool} {l p q : List Int} {t : Bool} (h : W = (A ++ (allC (l ++ (p ++ q)) t).1, (allC (l ++ (p ++ q)) t).2)) :
    W = ((A ++ (allC (l ++ p) t).1) ++ (allC ((allC (l ++ p) t).2.1 ++ q) (allC (l ++ p) t).2.2).1, (allC ((allC (l ++ p) t).2.1 ++ q) (allC (l ++ p) t).2.2).2) := by
  rw [h, ← List.append_assoc, pieces (mu (l ++ p) t + 1) (l ++ p) t q (by omega)]
  dsimp only
  rw [List.append_assoc]
end Go.Proofs.Ytkndghbognhocaa.Pure
namespace Go.Proofs.Ytkndghbognhocaa.X
open Go.RowKit Go.Proofs.YtkndghbognhocaaW.PrintWords Go.Proofs.YtkndghbognhocaaW.PrintLast Go.Proofs.YtkndghbognhocaaW.PrintMore Go.Proofs.Ytkndghbognhocaa.Pure
set_option linter.unusedVariables false
/-- The last one is taken into another one of them, which grows. -/
theorem Sep.upd3 {W : World} {N : Nat} {Xs : List Thing} {Y : Thing} (h : Sep W N (Xs ++ [Y])) (i : Nat) (X : Thing) (hi : Xs[i]? = some X) :
    ∃ S T : Nat → Prop, X.P W S ∧ Y.P W T ∧ (∀ k, S k → T k → False) ∧ (∀ k, S k → k < N) ∧ (∀ k, T k → k < N) ∧ ∀ (W' : World) (X' : Thing), Kept W W' S → X'.P W' (fun k => (S k ∨ T k ∨ W.heap.size ≤ k) ∧ k < W'.heap.size) → Sep W' W'.heap.size (Xs.set i X') := by
  obtain ⟨hN, om, hx⟩ := h
  have hil : i < Xs.length := (List.getElem?_eq_some_iff.1 hi).1
  refine ⟨fun k => om k = i ∧ k < N, fun k => om k = Xs.length ∧ k < N, hx i X (by rw [List.getElem?_append_left hil]; exact hi), hx Xs.length Y (by simp), fun k h1 h2 => by have := h1.1.symm.trans h2.1; omega, fun k hk => hk.2, fun k hk => hk.2, fun W' X' hK hX' => ?_⟩
  refine ⟨Nat.le_refl _, fun k => if k < N then (if om k = Xs.length then i else om k) else if k < W.heap.size then Xs.length else i, fun j Z hj => ?_⟩
  by_cases hji : j = i
  · subst hji
    rw [List.getElem?_set_self hil] at hj
    injection hj with hj
    subst hj
    refine X'.mono hX' (fun k hk => ⟨?_, hk.2⟩)
    dsimp only
    rcases hk.1 with h1 | h1 | h1
    · rw [if_pos h1.2, if_neg (by have := h1.1; omega)]; exact h1.1
    · rw [if_pos h1.2, if_pos h1.1]
    · rw [if_neg (by omega), if_neg (by omega)]
  · rw [List.getElem?_set_ne (fun h => hji h.symm)] at hj
    have hjl : j < Xs.length := (List.getElem?_eq_some_iff.1 hj).1
    have hZ := Z.step (hx j Z (by rw [List.getElem?_append_left hjl]; exact hj)) (W' := W') (fun k hk hlt => hK.2 k hlt (fun hs => hji (hk.1.symm.trans hs.1)))
    exact Z.mono hZ (fun k hk => ⟨by dsimp only; rw [if_pos hk.2, if_neg (by have := hk.1; omega)]; exact hk.1, Nat.lt_of_lt_of_le hk.2 (Nat.le_trans hN hK.1)⟩)
end Go.Proofs.Ytkndghbognhocaa.X
