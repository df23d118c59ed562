/- Packs: what the printed functions answer, and what follows (Pk1 to Pk5 in one text). -/
import Derived.Test.YtpmikaoheaefiaaXx4
import Derived.Test.YtpmikaoheaefiaaXx7
import Derived.Test.YtpmikaoheaefiaaXx2
import Derived.Test.YtpmikaoheaefiaaXx5
import Derived.Test.YtpmikaoheaefiaaXx8
import Derived.Test.YtpmikaoheaefiaaXPkA
namespace Go.Proofs.Ytpmikaoheaefiaa.Pure
set_option linter.unusedVariables false
set_option linter.unusedSimpArgs false
open Go.RowKit Go.Proofs.Ytpmikaoheaefiaa.X Go.Proofs.YtpmikaoheaefiaaW.PrintWords Go.Proofs.YtpmikaoheaefiaaW.PrintLast Go.Proofs.YtpmikaoheaefiaaW.PrintMore

/-- A section's bytes. -/
def secB (s : S33) : List Int := s.f0 % 256 :: (enc s.f1.length ++ s.f1)
def secs : List S33 → List Int
  | [] => []
  | s :: r => secB s ++ secs r
theorem secs_append (a b : List S33) : secs (a ++ b) = secs a ++ secs b := by
  induction a with
  | nil => rfl
  | cons s r ih => simp only [List.cons_append, secs, ih, List.append_assoc]
/-- Tags rise, to 255 at most. -/
def chk : Int → List S33 → Bool
  | _, [] => true
  | last, s :: r => if s.f0 ≤ last then false else if s.f0 > 255 then false else chk s.f0 r
theorem chk_cons (last : Int) (s : S33) (r : List S33) : chk last (s :: r) = true ↔ last < s.f0 ∧ s.f0 ≤ 255 ∧ chk s.f0 r = true := by
  rw [show chk last (s :: r) = (if s.f0 ≤ last then false else if s.f0 > 255 then false else chk s.f0 r) from rfl]
  by_cases h1 : s.f0 ≤ last
  · rw [if_pos h1]
    constructor
    · intro h; simp at h
    · rintro ⟨h, _⟩; omega
  · rw [if_neg h1]
    by_cases h2 : s.f0 > 255
    · rw [if_pos h2]
      constructor
      · intro h; simp at h
      · rintro ⟨_, h, _⟩; omega
    · rw [if_neg h2]
      constructor
      · intro h; exact ⟨by omega, by omega, h⟩
      · rintro ⟨_, _, h⟩; exact h
/-- Each section's data are bytes, and not too many. -/
def OKs (l : List S33) : Prop := ∀ s ∈ l, BI s.f1
def small (l : List S33) : Prop := ∀ s ∈ l, s.f1.length ≤ 262144
theorem chk_length (l : List S33) : ∀ last : Int, chk last l = true → (l.length : Int) ≤ 255 - last ∨ l = [] := by
  induction l with
  | nil => intro last _; exact .inr rfl
  | cons s r ih =>
    intro last h
    obtain ⟨h1, h2, h3⟩ := (chk_cons _ _ _).1 h
    left
    rcases ih s.f0 h3 with h4 | h4
    · simp only [List.length_cons]; omega
    · subst h4; simp; omega
theorem secB_BI (s : S33) (h : BI s.f1) : BI (secB s) := BI_cons (Int.emod_nonneg _ (by omega)) (Int.emod_lt_of_pos _ (by omega)) (BI_append (enc_BI _ _ (Nat.le_refl _)) h)
theorem secs_BI (l : List S33) (h : OKs l) : BI (secs l) := by
  induction l with
  | nil => exact BI_nil
  | cons s r ih => exact BI_append (secB_BI s (h s List.mem_cons_self)) (ih (fun x hx => h x (List.mem_cons_of_mem _ hx)))
theorem secB_length (s : S33) (h : s.f1.length ≤ 9007199254740991) : (secB s).length ≤ s.f1.length + 9 ∧ s.f1.length + 2 ≤ (secB s).length := by
  have := enc_le8 s.f1.length h
  have := enc_pos s.f1.length
  simp only [secB, List.length_cons, List.length_append]
  omega
theorem secs_length (m : Nat) (hm : m ≤ 9007199254740991) (l : List S33) (h : ∀ s ∈ l, s.f1.length ≤ m) : (secs l).length ≤ l.length * (m + 9) := by
  induction l with
  | nil => simp [secs]
  | cons s r ih =>
    have h1 := secB_length s (Nat.le_trans (h s List.mem_cons_self) hm)
    have h2 := ih (fun x hx => h x (List.mem_cons_of_mem _ hx))
    have h3 := h s List.mem_cons_self
    simp only [secs, List.length_append, List.length_cons]
    rw [Nat.add_mul]
    omega
theorem secs_mem_le (l : List S33) (s : S33) (hs : s ∈ l) : s.f1.length ≤ (secs l).length := by
  induction l with
  | nil => cases hs
  | cons x r ih =>
    simp only [secs, List.length_append]
    rcases List.mem_cons.1 hs with rfl | hs
    · simp only [secB, List.length_cons, List.length_append]; omega
    · have := ih hs; omega

/-- What bytes tell as sections; none: it is none. -/
def parse : Nat → List Int → Int → Option (List S33)
  | 0, _, _ => none
  | _ + 1, [], _ => some []
  | d + 1, tag :: r, last => if (takeTextI r 262144).2.2 = 0 then (if tag ≤ last then none else ((parse d (takeTextI r 262144).2.1 tag).map fun l => (⟨tag, (takeTextI r 262144).1⟩ : S33) :: l)) else none

theorem takeTextI_ok (r : List Int) (hB : BI r) (h : (takeTextI r 262144).2.2 = 0) :
    r = enc (takeTextI r 262144).1.length ++ ((takeTextI r 262144).1 ++ (takeTextI r 262144).2.1) ∧ (takeTextI r 262144).1.length ≤ 262144 := by
  rcases tk_spec r with ⟨n, s, h1, hn, hs1, hs2, _⟩ | h1 | h1
  · rw [takeTextI_of r 262144 n s h1 (by decide)] at h ⊢
    by_cases c1 : (n : Int) > 262144
    · rw [if_pos c1] at h; cases h
    rw [if_neg c1] at h ⊢
    by_cases c2 : (n : Int) > ((r.drop s).length : Int)
    · rw [if_pos c2] at h; cases h
    rw [if_neg c2] at h ⊢
    have h3 := enc_tk r hB n s h1
    have h4 : ((r.drop s).take n).length = n := by rw [List.length_take]; omega
    dsimp only
    rw [h4, List.take_append_drop, h3, List.take_append_drop]
    exact ⟨rfl, by omega⟩
  · rw [takeTextI_bad r 262144 3 h1 (by decide) (by decide)] at h; cases h
  · rw [takeTextI_bad r 262144 4 h1 (by decide) (by decide)] at h; cases h
theorem takeTextI_short (r : List Int) (h : (takeTextI r 262144).2.2 = 0) : (takeTextI r 262144).2.1.length < r.length := by
  rcases tk_spec r with ⟨n, s, h1, hn, hs1, hs2, _⟩ | h1 | h1
  · rw [takeTextI_of r 262144 n s h1 (by decide)] at h ⊢
    by_cases c1 : (n : Int) > 262144
    · rw [if_pos c1] at h; cases h
    rw [if_neg c1] at h ⊢
    by_cases c2 : (n : Int) > ((r.drop s).length : Int)
    · rw [if_pos c2] at h; cases h
    rw [if_neg c2] at h ⊢
    simp only [List.length_drop]
    omega
  · rw [takeTextI_bad r 262144 3 h1 (by decide) (by decide)] at h; cases h
  · rw [takeTextI_bad r 262144 4 h1 (by decide) (by decide)] at h; cases h
theorem takeTextI_BI (r : List Int) (hB : BI r) (h : (takeTextI r 262144).2.2 = 0) : BI (takeTextI r 262144).1 ∧ BI (takeTextI r 262144).2.1 := by
  have e := (takeTextI_ok r hB h).1
  constructor
  · intro x hx; apply hB; rw [e]; simp [hx]
  · intro x hx; apply hB; rw [e]; simp [hx]

theorem parse_secs (l : List S33) : ∀ (last : Int) (d : Nat), 0 ≤ last → chk last l = true → OKs l → small l → l.length < d → parse d (secs l) last = some l := by
  induction l with
  | nil =>
    intro last d h0 hc ho hs hd
    obtain ⟨d, rfl⟩ : ∃ m, d = m + 1 := ⟨d - 1, by omega⟩
    rfl
  | cons s r ih =>
    intro last d h0 hc ho hs hd
    obtain ⟨d, rfl⟩ : ∃ m, d = m + 1 := ⟨d - 1, by omega⟩
    obtain ⟨h1, h2, h3⟩ := (chk_cons _ _ _).1 hc
    have h4 := hs s List.mem_cons_self
    have e : takeTextI (enc s.f1.length ++ s.f1 ++ secs r) 262144 = (s.f1, secs r, 0) := by rw [List.append_assoc]; exact takeTextI_enc s.f1 (secs r) 262144 (by omega) (by omega)
    have e2 : s.f0 % 256 = s.f0 := Int.emod_eq_of_lt (by omega) (by omega)
    show parse (d + 1) (s.f0 % 256 :: (enc s.f1.length ++ s.f1 ++ secs r)) last = _
    unfold parse
    rw [e2, e]
    dsimp only
    rw [if_pos rfl, if_neg (by omega), ih s.f0 d (by omega) h3 (fun x hx => ho x (List.mem_cons_of_mem _ hx)) (fun x hx => hs x (List.mem_cons_of_mem _ hx)) (by simp only [List.length_cons] at hd; omega)]
    rfl
theorem parse_ok (d : Nat) : ∀ (b : List Int) (last : Int) (l : List S33), BI b → parse d b last = some l → secs l = b ∧ (0 ≤ last → chk last l = true) ∧ OKs l ∧ small l := by
  induction d with
  | zero => intro b last l hB h; cases h
  | succ d ih =>
    intro b last l hB h
    cases b with
    | nil =>
      have h' : some ([] : List S33) = some l := h
      cases h'
      exact ⟨rfl, fun _ => rfl, (fun _ hx => (by cases hx)), (fun _ hx => (by cases hx))⟩
    | cons tag r =>
      unfold parse at h
      have hr : BI r := fun x hx => hB x (List.mem_cons_of_mem _ hx)
      by_cases c1 : (takeTextI r 262144).2.2 = 0
      · rw [if_pos c1] at h
        by_cases c2 : tag ≤ last
        · rw [if_pos c2] at h; cases h
        · rw [if_neg c2] at h
          obtain ⟨l', hl', rfl⟩ := Option.map_eq_some_iff.1 h
          obtain ⟨e1, e2⟩ := takeTextI_ok r hr c1
          obtain ⟨b1, b2⟩ := takeTextI_BI r hr c1
          obtain ⟨i1, i2, i3, i4⟩ := ih _ _ _ b2 hl'
          obtain ⟨t0, t1⟩ := hB tag List.mem_cons_self
          refine ⟨?_, fun h0 => ?_, ?_, ?_⟩
          · show (tag % 256 :: (enc (takeTextI r 262144).1.length ++ (takeTextI r 262144).1)) ++ secs l' = _
            rw [i1, Int.emod_eq_of_lt t0 t1, List.cons_append, List.append_assoc, ← e1]
          · exact (chk_cons _ _ _).2 ⟨by show last < tag; omega, by show tag ≤ 255; omega, i2 t0⟩
          · intro x hx
            rcases List.mem_cons.1 hx with rfl | hx
            · exact b1
            · exact i3 x hx
          · intro x hx
            rcases List.mem_cons.1 hx with rfl | hx
            · exact e2
            · exact i4 x hx
      · rw [if_neg c1] at h; cases h
/-- Enough steps. -/
theorem parse_more (d : Nat) : ∀ (b : List Int) (last : Int) (e : Nat), b.length < d → d ≤ e → parse e b last = parse d b last := by
  induction d with
  | zero => intro b last e h; omega
  | succ d ih =>
    intro b last e h he
    obtain ⟨e, rfl⟩ : ∃ m, e = m + 1 := ⟨e - 1, by omega⟩
    cases b with
    | nil => rfl
    | cons tag r =>
      unfold parse
      by_cases c1 : (takeTextI r 262144).2.2 = 0
      · rw [if_pos c1, if_pos c1]
        have := takeTextI_short r c1
        simp only [List.length_cons] at h
        rw [ih _ _ e (by omega) (by omega)]
      · rw [if_neg c1, if_neg c1]

def fourI (a : Int) : List Int := [a % 256, (a / 256) % 256, (a / 65536) % 256, (a / 16777216) % 256]
theorem four_some (a : Int) : pack_four.f a = some (fourI a) := rfl
theorem fourI_BI (a : Int) : BI (fourI a) := by
  unfold fourI
  refine BI_cons ?_ ?_ (BI_cons ?_ ?_ (BI_cons ?_ ?_ (BI_cons ?_ ?_ BI_nil))) <;> omega
theorem fourI_length (a : Int) : (fourI a).length = 4 := rfl
theorem nat_fourI (a : Int) (h0 : 0 ≤ a) : nat (fourI a) = Crc.four a.toNat := by
  obtain ⟨n, rfl⟩ := Int.eq_ofNat_of_zero_le h0
  simp only [fourI, nat, Crc.four, List.map_cons, List.map_nil, Int.toNat_natCast]
  congr 1
theorem rd_row_T (l : List S33) (i : Nat) (h : i < l.length) : rd_T33 l (i : Int) = l[i] := by
  unfold rd_T33
  rw [Int.toNat_natCast, List.getD_eq_getElem?_getD, List.getElem?_eq_getElem h, Option.getD_some]
theorem drop_cons (l : List S33) (i : Nat) (h : i < l.length) : l.drop i = l[i] :: l.drop (i + 1) := (List.drop_eq_getElem_cons h)

/-! the check -/
theorem check_loop (l : List S33) (hn : l.length ≤ 4398046511104) (d : Nat) : ∀ (i : Nat) (last : Int), i + d = l.length →
    Ev (fun k => pack_check.l0 k last l (l.length : Int) (i : Int)) (if chk last (l.drop i) = true then 0 else 2) := by
  induction d with
  | zero =>
    intro i last hi
    refine Ev.step (f := fun k => _) (fun k => by simp only [pack_check.l0]; rfl) ?_
    refine ev_neg (by omega) ?_
    rw [List.drop_eq_nil_of_le (by omega)]
    exact Ev.now _
  | succ d ih =>
    intro i last hi
    have hlt : i < l.length := by omega
    refine Ev.step (f := fun k => _) (fun k => by simp only [pack_check.l0]; rfl) ?_
    refine ev_pos (by omega) (ev_pos (by omega) (ev_pos (by omega) ?_))
    rw [rd_row_T l i hlt, drop_cons l i hlt]
    rw [show chk last (l[i] :: l.drop (i + 1)) = (if l[i].f0 ≤ last then false else if l[i].f0 > 255 then false else chk l[i].f0 (l.drop (i + 1))) from rfl]
    by_cases h1 : l[i].f0 ≤ last
    · rw [if_pos h1]
      exact ev_pos h1 (Ev.now _)
    refine ev_neg h1 ?_
    rw [if_neg h1]
    by_cases h2 : l[i].f0 > 255
    · rw [if_pos h2]
      exact ev_pos h2 (Ev.now _)
    refine ev_neg h2 ?_
    rw [if_neg h2, w64 (by omega) (by omega)]
    exact ih (i + 1) _ (by omega)
def okay (kind : Int) (l : List S33) : Bool := decide (0 ≤ kind ∧ kind ≤ 255) && chk 0 l
theorem check_ev (kind : Int) (l : List S33) (hn : l.length ≤ 4398046511104) : Ev (fun k => pack_check.f k kind l) (if okay kind l = true then 0 else 2) := by
  unfold pack_check.f okay
  by_cases h0 : kind < 0
  · refine ev_pos h0 ?_
    refine Ev.step (f := fun k => _) (fun k => by simp only [pack_check.j0]; rfl) ?_
    rw [decide_eq_false (by omega), Bool.false_and, if_neg (by decide)]
    exact Ev.now _
  refine ev_neg h0 ?_
  refine Ev.step (f := fun k => _) (fun k => by simp only [pack_check.j0]; rfl) ?_
  by_cases h1 : kind > 255
  · refine ev_pos (decide_eq_true h1) ?_
    rw [decide_eq_false (by omega), Bool.false_and, if_neg (by decide)]
    exact Ev.now _
  refine ev_neg (by simp [h1]) ?_
  rw [decide_eq_true (show 0 ≤ kind ∧ kind ≤ 255 by omega), Bool.true_and]
  have := check_loop l hn l.length 0 0 (by omega)
  rw [List.drop_zero] at this
  exact this

/-! Pack -/
def packB (kind : Int) (l : List S33) : List Int := [73, 80] ++ (fourI ((10 + (1 + (secs l).length) : Nat) : Int) ++ (kind % 256 :: secs l))
def sealI (b : List Int) : List Int := b ++ fourI (onI 0 b)
def packI (kind : Int) (l : List S33) : List Int × Int :=
  if okay kind l = true then (if ∀ s ∈ l, s.f1.length ≤ 262144 then (if 11 + (secs l).length ≤ 262144 then (sealI (packB kind l), 0) else ([], 5)) else ([], 5)) else ([], 2)
instance (l : List S33) : Decidable (∀ s ∈ l, s.f1.length ≤ 262144) := List.decidableBAll _ _
theorem packB_BI (kind : Int) (l : List S33) (h : OKs l) : BI (packB kind l) :=
  BI_append (BI_cons (by omega) (by omega) (BI_cons (by omega) (by omega) BI_nil)) (BI_append (fourI_BI _) (BI_cons (by omega) (by omega) (secs_BI l h)))
theorem packB_length (kind : Int) (l : List S33) : (packB kind l).length = 7 + (secs l).length := by
  simp only [packB, List.length_append, List.length_cons, fourI_length, List.length_nil]; omega
theorem sealI_length (b : List Int) : (sealI b).length = b.length + 4 := by simp [sealI, fourI_length]
theorem onI0_range (b : List Int) (hb : BI b) : 0 ≤ onI 0 b ∧ onI 0 b < 4294967296 := onI_range 0 b (by omega) (by omega) hb

theorem pack_tail (kind : Int) (l : List S33) (hO : OKs l) (hsm : (secs l).length ≤ 1000000000) :
    Ev (fun k => if (wrap64 ((wrap64 (6 + ((kind % 256 :: secs l).length : Int))) + 4)) > 262144 then (some (([] : List Int), (5 : Int))) else ((pack_four.f ((wrap64 ((wrap64 (6 + ((kind % 256 :: secs l).length : Int))) + 4)) % 4294967296)).bind fun t178 => ((slices_Concat_byte_byte.f k (([(([73, 80] : List Int)), t178, (kind % 256 :: secs l)] : List (List Int)))).bind fun t184 => ((crc_Of.f k t184).bind fun t187 => ((pack_four.f t187).bind fun t188 => (if 0 < t184.length then (if 0 < t188.length then (if t184.length + t188.length < 140737488355328 then (some ((t184 ++ t188), 0)) else (none)) else (none)) else (none)))))))
      (if 11 + (secs l).length ≤ 262144 then (sealI (packB kind l), 0) else ([], 5)) := by
  have e1 : wrap64 ((wrap64 (6 + ((kind % 256 :: secs l).length : Int))) + 4) = ((11 + (secs l).length : Nat) : Int) := by
    rw [List.length_cons, w64 (x := 6 + (((secs l).length + 1 : Nat) : Int)) (by omega) (by omega), w64 (by omega) (by omega)]; omega
  rw [e1]
  by_cases h : 11 + (secs l).length ≤ 262144
  · rw [if_pos h]
    refine ev_neg (by omega) ?_
    refine ev_some (f := fun k t => _) (four_some _) ?_
    rw [Int.emod_eq_of_lt (by omega) (by omega)]
    have e2 : (11 + (secs l).length : Nat) = 10 + (1 + (secs l).length) := by omega
    have hc := concat_ev [([73, 80] : List Int), fourI ((11 + (secs l).length : Nat) : Int), kind % 256 :: secs l] (by simp) (by simp [fourI_length]; omega)
    rw [show [([73, 80] : List Int), fourI ((11 + (secs l).length : Nat) : Int), kind % 256 :: secs l].flatten = packB kind l by rw [packB, ← e2]; simp] at hc
    refine Ev.bind (f := fun k t => _) hc ?_
    have hl := packB_length kind l
    have hb := packB_BI kind l hO
    refine Ev.bind (f := fun k t => _) (of_ev (packB kind l) hb (by omega)) ?_
    refine ev_some (f := fun k t => _) (four_some _) ?_
    refine ev_pos (by omega) (ev_pos (by rw [fourI_length]; omega) (ev_pos (by rw [fourI_length]; omega) ?_))
    exact Ev.now _
  · rw [if_neg h]
    exact ev_pos (by omega) (Ev.now _)

theorem secs_take (l : List S33) (i : Nat) (h : i < l.length) : secs (l.take (i + 1)) = secs (l.take i) ++ secB l[i] := by
  rw [List.take_succ_eq_append_getElem h, secs_append]
  simp [secs]
theorem secs_take_le (l : List S33) (i : Nat) (h : ∀ s ∈ l.take i, s.f1.length ≤ 262144) : (secs (l.take i)).length ≤ i * 262153 := by
  have := secs_length 262144 (by omega) (l.take i) h
  have h2 : (l.take i).length ≤ i := List.length_take_le _ _
  have h3 : (l.take i).length * (262144 + 9) ≤ i * 262153 := Nat.mul_le_mul h2 (by omega)
  exact Nat.le_trans this h3
theorem pack_loop (kind : Int) (l : List S33) (hn : l.length ≤ 255) (hO : OKs l) (d : Nat) : ∀ (i : Nat), i + d = l.length → (∀ s ∈ l.take i, s.f1.length ≤ 262144) → (∀ s ∈ l, s.f1.length ≤ 140737488355300) →
    Ev (fun k => pack_Pack.l0 k (kind % 256 :: secs (l.take i)) l (l.length : Int) (i : Int)) (if ∀ s ∈ l, s.f1.length ≤ 262144 then (if 11 + (secs l).length ≤ 262144 then (sealI (packB kind l), 0) else ([], 5)) else ([], 5)) := by
  induction d with
  | zero =>
    intro i hi hs hbig
    have hil : i = l.length := by omega
    subst hil
    rw [List.take_length] at hs ⊢
    refine Ev.step (f := fun k => _) (fun k => by simp only [pack_Pack.l0]; rfl) ?_
    refine ev_neg (by omega) ?_
    rw [if_pos hs]
    have := secs_take_le l l.length (by rw [List.take_length]; exact hs)
    rw [List.take_length] at this
    exact pack_tail kind l hO (by omega)
  | succ d ih =>
    intro i hi hs hbig
    have hlt : i < l.length := by omega
    have h0 := secs_take_le l i hs
    refine Ev.step (f := fun k => _) (fun k => by simp only [pack_Pack.l0]; rfl) ?_
    refine ev_pos (by omega) (ev_pos (by omega) (ev_pos (by omega) ?_))
    rw [rd_row_T l i hlt]
    have hm : l[i] ∈ l := List.getElem_mem hlt
    refine Ev.bind (f := fun k t => _) (text_ev l[i].f1 262144 (hbig _ hm)) ?_
    by_cases h1 : l[i].f1.length ≤ 262144
    · rw [textI_ok l[i].f1 262144 (by omega)]
      refine ev_pos rfl (ev_pos (by rw [List.length_cons]; omega) ?_)
      refine ev_some (f := fun k t => _) rfl ?_
      have h3 := enc_le8 l[i].f1.length (by omega)
      refine ev_pos (by simp only [List.length_append, List.length_cons, List.length_nil]; omega) ?_
      have e : (kind % 256 :: secs (l.take i)) ++ [l[i].f0 % 256] ++ (enc l[i].f1.length ++ l[i].f1) = kind % 256 :: secs (l.take (i + 1)) := by
        rw [secs_take l i hlt]; simp [secB]
      rw [e, w64 (by omega) (by omega)]
      refine ih (i + 1) (by omega) (fun s hsm => ?_) hbig
      rw [List.take_succ_eq_append_getElem hlt] at hsm
      rcases List.mem_append.1 hsm with h4 | h4
      · exact hs s h4
      · rw [List.mem_singleton.1 h4]; exact h1
    · rw [show textI l[i].f1 262144 = ([], 5) by unfold textI; rw [if_neg (by omega), if_pos (by omega)]]
      rw [if_neg (fun h => h1 (h _ hm))]
      exact ev_neg (by decide) (Ev.now _)
theorem okay_length (kind : Int) (l : List S33) (h : okay kind l = true) : l.length ≤ 255 ∧ 0 ≤ kind ∧ kind ≤ 255 ∧ chk 0 l = true := by
  unfold okay at h
  obtain ⟨h1, h2⟩ := Bool.and_eq_true_iff.1 h
  have h3 := of_decide_eq_true h1
  rcases chk_length l 0 h2 with h4 | h4
  · exact ⟨by omega, h3.1, h3.2, h2⟩
  · subst h4; exact ⟨by simp, h3.1, h3.2, h2⟩
theorem pack_ev (kind : Int) (l : List S33) (hn : l.length ≤ 4398046511104) (hO : OKs l) (hbig : ∀ s ∈ l, s.f1.length ≤ 140737488355300) : Ev (fun k => pack_Pack.f k kind l) (packI kind l) := by
  unfold pack_Pack.f packI
  refine Ev.bind (f := fun k t => _) (check_ev kind l hn) ?_
  by_cases h : okay kind l = true
  · rw [if_pos h, if_pos h]
    refine ev_pos rfl ?_
    have := pack_loop kind l (okay_length kind l h).1 hO l.length 0 (by omega) (fun _ hx => by simp at hx) hbig
    simpa [secs] using this
  · rw [if_neg h, if_neg h]
    exact ev_neg (by decide) (Ev.now _)

theorem eqs_loop (a b : List Int) (hab : a.length = b.length) (hn : a.length ≤ 9223372036854775800) (d : Nat) : ∀ (i : Nat), i + d = a.length →
    Ev (fun k => slices_Equal_byte_byte.l0 k a b (a.length : Int) (i : Int)) (decide (a.drop i = b.drop i)) := by
  induction d with
  | zero =>
    intro i hi
    refine Ev.step (f := fun _ => some (decide (a.drop i = b.drop i))) (fun k => ?_) (Ev.now _)
    simp only [slices_Equal_byte_byte.l0]
    rw [if_neg (by omega), List.drop_eq_nil_of_le (by omega), List.drop_eq_nil_of_le (by omega)]
    simp
  | succ d ih =>
    intro i hi
    have ha : i < a.length := by omega
    have hb : i < b.length := by omega
    have e : ∀ k, slices_Equal_byte_byte.l0 (k + 1) a b (a.length : Int) (i : Int) = if a[i] = b[i] then slices_Equal_byte_byte.l0 k a b (a.length : Int) ((i + 1 : Nat) : Int) else some false := fun k => by
      simp only [slices_Equal_byte_byte.l0]
      rw [if_pos (by omega), if_pos (by omega), if_pos (by omega), if_pos (by omega), rd_at a i ha, rd_at b i hb, w64 (by omega) (by omega)]; rfl
    refine Ev.step e ?_
    rw [List.drop_eq_getElem_cons ha, List.drop_eq_getElem_cons hb]
    by_cases h : a[i] = b[i]
    · simp only [if_pos h, List.cons.injEq, h, true_and]
      exact ih (i + 1) (by omega)
    · simp only [if_neg h, List.cons.injEq, h, false_and]
      exact Ev.now _
theorem eqs_ev (a b : List Int) (hn : a.length ≤ 9223372036854775800) : Ev (fun k => slices_Equal_byte_byte.f k a b) (decide (a = b)) := by
  unfold slices_Equal_byte_byte.f
  by_cases h : a.length = b.length
  · simp only [if_pos (show (a.length : Int) = (b.length : Int) by omega)]
    have := eqs_loop a b h hn a.length 0 (by omega)
    simpa using this
  · simp only [if_neg (show ¬ (a.length : Int) = (b.length : Int) by omega)]
    rw [show decide (a = b) = false from decide_eq_false (fun e => h (by rw [e]))]
    exact Ev.now _

/-! Size -/
theorem or_lay (acc x k : Nat) (hk : k ≤ 40) (ha : acc < 2 ^ k) (hx : x < 256) : Go.bits .or .i64 (acc : Int) ((x : Int) * (2 ^ k : Nat)) = ((acc + 2 ^ k * x : Nat) : Int) := by
  have hw : ∀ n : Int, 0 ≤ n → n < 2 ^ 63 → IntKind.i64.wrap n = n := fun n a b => by rw [IntKind.wrap_i64]; omega
  have h1 : 2 ^ k ≤ 2 ^ 40 := Nat.pow_le_pow_right (by omega) hk
  have h2 : 2 ^ k * x < 2 ^ 40 * 256 := Nat.lt_of_le_of_lt (Nat.mul_le_mul_right x h1) (Nat.mul_lt_mul_of_pos_left hx (by decide))
  have h40 : (2 : Nat) ^ 40 = 1099511627776 := by decide
  rw [h40] at h1 h2
  have hb := (bits_nat .i64 63 (by decide) hw acc (2 ^ k * x) (by omega) (by omega)).2
  rw [show (x : Int) * (2 ^ k : Nat) = ((2 ^ k * x : Nat) : Int) by rw [Nat.mul_comm]; simp, hb, Nat.or_comm, ← Nat.two_pow_add_eq_or_of_lt ha x, Nat.add_comm]
theorem or4 (a b c d : Int) (ha : 0 ≤ a ∧ a < 256) (hb : 0 ≤ b ∧ b < 256) (hc : 0 ≤ c ∧ c < 256) (hd : 0 ≤ d ∧ d < 256) :
    Go.bits .or .i64 (Go.bits .or .i64 (Go.bits .or .i64 (wrap64 a) (wrap64 ((wrap64 b) * 256))) (wrap64 ((wrap64 c) * 65536))) (wrap64 ((wrap64 d) * 16777216)) = a + 256 * b + 65536 * c + 16777216 * d := by
  rw [w64 (x := a) (by omega) (by omega), w64 (x := b) (by omega) (by omega), w64 (x := c) (by omega) (by omega), w64 (x := d) (by omega) (by omega), w64 (x := b * 256) (by omega) (by omega), w64 (x := c * 65536) (by omega) (by omega), w64 (x := d * 16777216) (by omega) (by omega)]
  obtain ⟨a, rfl⟩ := Int.eq_ofNat_of_zero_le ha.1
  obtain ⟨b, rfl⟩ := Int.eq_ofNat_of_zero_le hb.1
  obtain ⟨c, rfl⟩ := Int.eq_ofNat_of_zero_le hc.1
  obtain ⟨d, rfl⟩ := Int.eq_ofNat_of_zero_le hd.1
  have e1 := or_lay a b 8 (by omega) (by omega) (by omega)
  have e2 := or_lay (a + 2 ^ 8 * b) c 16 (by omega) (by omega) (by omega)
  have e3 := or_lay (a + 2 ^ 8 * b + 2 ^ 16 * c) d 24 (by omega) (by omega) (by omega)
  rw [show ((256 : Int)) = ((2 ^ 8 : Nat) : Int) by decide, e1, show ((65536 : Int)) = ((2 ^ 16 : Nat) : Int) by decide, e2, show ((16777216 : Int)) = ((2 ^ 24 : Nat) : Int) by decide, e3]
  omega
def le4 (b : List Int) : Int := rd b 2 + 256 * rd b 3 + 65536 * rd b 4 + 16777216 * rd b 5
def sizeI (b : List Int) : Int × Int :=
  if (0 < b.length ∧ rd b 0 ≠ 73) ∨ (1 < b.length ∧ rd b 1 ≠ 80) then (0, 4) else if b.length < 6 then (0, 3) else if le4 b > 262144 then (0, 5) else if le4 b < 11 then (0, 4) else (le4 b, 0)
theorem rd_BI (b : List Int) (hB : BI b) (i : Nat) (hi : i < b.length) : 0 ≤ rd b (i : Int) ∧ rd b (i : Int) < 256 := by
  rw [rd_at b i hi]; exact hB _ (List.getElem_mem hi)
theorem size_rest (b : List Int) (hB : BI b) (hn : b.length ≤ 9223372036854775800) (x8 x9 : Int) (h : ¬ x9 < x8) :
    Ev (fun k => pack_Size.l0 k b x8 x9) (if b.length < 6 then (0, 3) else if le4 b > 262144 then (0, 5) else if le4 b < 11 then (0, 4) else (le4 b, 0)) := by
  refine Ev.step (f := fun k => _) (fun k => by simp only [pack_Size.l0]; rfl) ?_
  refine ev_neg h ?_
  by_cases h6 : b.length < 6
  · rw [if_pos h6]; exact ev_pos (by omega) (Ev.now _)
  rw [if_neg h6]
  refine ev_neg (by omega) (ev_pos (by omega) (ev_pos (by omega) (ev_pos (by omega) (ev_pos (by omega) ?_))))
  rw [or4 (rd b 2) (rd b 3) (rd b 4) (rd b 5) (rd_BI b hB 2 (by omega)) (rd_BI b hB 3 (by omega)) (rd_BI b hB 4 (by omega)) (rd_BI b hB 5 (by omega))]
  rw [show rd b 2 + 256 * rd b 3 + 65536 * rd b 4 + 16777216 * rd b 5 = le4 b from rfl]
  by_cases h1 : le4 b > 262144
  · simp only [if_pos h1]; exact Ev.now _
  simp only [if_neg h1]
  by_cases h2 : le4 b < 11
  · simp only [if_pos h2]; exact Ev.now _
  simp only [if_neg h2]
  exact Ev.now _
theorem bt0 : bt (⟨#[73, 80]⟩ : ByteArray) 0 = 73 := by decide
theorem bt1 : bt (⟨#[73, 80]⟩ : ByteArray) 1 = 80 := by decide
theorem size_ev (b : List Int) (hB : BI b) (hn : b.length ≤ 9223372036854775800) : Ev (fun k => pack_Size.f k b) (sizeI b) := by
  unfold pack_Size.f sizeI
  have hm := mn_spec (b.length : Int) 2
  generalize hx : mn (b.length : Int) 2 = x8 at hm
  have hx2 : x8 = if b.length < 2 then (b.length : Int) else 2 := by rw [← hx]; unfold mn; split <;> split <;> omega
  by_cases h0 : b.length = 0
  · rw [if_neg (by omega)]
    exact size_rest b hB hn _ _ (by rw [hx2]; split <;> omega)
  refine Ev.step (f := fun k => _) (fun k => by simp only [pack_Size.l0]; rfl) ?_
  refine ev_pos (by rw [hx2]; split <;> omega) (ev_pos (by omega) (ev_pos (by omega) (ev_pos (by omega) ?_)))
  rw [bt0]
  by_cases c0 : rd b 0 = 73
  · refine ev_pos c0 ?_
    rw [show wrap64 (0 + 1) = 1 from (w64 (by omega) (by omega)).trans (by omega)]
    by_cases h1 : b.length = 1
    · rw [if_neg (by omega)]
      exact size_rest b hB hn _ _ (by rw [hx2]; split <;> omega)
    refine Ev.step (f := fun k => _) (fun k => by simp only [pack_Size.l0]; rfl) ?_
    refine ev_pos (by rw [hx2]; split <;> omega) (ev_pos (by omega) (ev_pos (by omega) (ev_pos (by omega) ?_)))
    rw [bt1]
    by_cases c1 : rd b 1 = 80
    · refine ev_pos c1 ?_
      rw [show wrap64 (1 + 1) = 2 from (w64 (by omega) (by omega)).trans (by omega), if_neg (by omega)]
      exact size_rest b hB hn _ _ (by rw [hx2]; split <;> omega)
    · rw [if_pos (by omega)]
      exact ev_neg c1 (Ev.now _)
  · rw [if_pos (by omega)]
    exact ev_neg c0 (Ev.now _)

/-! Unpack -/
theorem unpack_loop (x0 : List Int) (h6 : 6 < x0.length) (d : Nat) : ∀ (left : List Int) (last : Int) (acc : List S33), left.length < d → BI left → acc.length + left.length ≤ 300000 →
    Ev (fun k => pack_Unpack.l0 k x0 left last acc) (match parse d left last with | none => (0, [], 4) | some l => (wrap64 (rd x0 6), acc ++ l, 0)) := by
  induction d with
  | zero => intro left last acc h; omega
  | succ d ih =>
    intro left last acc hd hB hs
    refine Ev.step (f := fun k => _) (fun k => by simp only [pack_Unpack.l0]; rfl) ?_
    cases left with
    | nil =>
      refine ev_neg (by simp) (ev_pos (by omega) ?_)
      show Ev _ (wrap64 (rd x0 6), acc ++ [], 0)
      rw [List.append_nil]
      exact Ev.now _
    | cons tag r =>
      have hr : BI r := fun x hx => hB x (List.mem_cons_of_mem _ hx)
      obtain ⟨t0, t1⟩ := hB tag List.mem_cons_self
      simp only [List.length_cons] at hd hs
      refine ev_pos (by simp) ?_
      rw [show (tag :: r).drop 1 = r from rfl, show rd (tag :: r) 0 = tag from rfl, w64 (by omega) (by omega)]
      refine Ev.bind (f := fun k t => _) (takeText_ev r 262144 hr (by omega)) ?_
      unfold parse
      by_cases c1 : (takeTextI r 262144).2.2 = 0
      · rw [if_pos c1]
        refine ev_pos c1 ?_
        by_cases c2 : tag ≤ last
        · rw [if_pos c2]
          exact ev_pos c2 (Ev.now _)
        rw [if_neg c2]
        refine ev_neg c2 (ev_pos (by omega) ?_)
        have hsh := takeTextI_short r c1
        refine ev_eq ?_ (ih (takeTextI r 262144).2.1 tag _ (by omega) (takeTextI_BI r hr c1).2 (by simp only [List.length_append, List.length_cons, List.length_nil]; omega))
        cases parse d (takeTextI r 262144).2.1 tag with
        | none => rfl
        | some l => simp
      · rw [if_neg c1]
        exact ev_neg c1 (Ev.now _)
def unpackI (b : List Int) : Int × List S33 × Int :=
  if (sizeI b).2 = 0 then (if (b.length : Int) < (sizeI b).1 then (0, [], 3) else if (b.length : Int) > (sizeI b).1 then (0, [], 4) else
    if b.drop (b.length - 4) = fourI (onI 0 (b.take (b.length - 4))) then (match parse (b.length) ((b.take (b.length - 4)).drop 7) 0 with | none => (0, [], 4) | some l => (rd b 6, l, 0)) else (0, [], 30)) else (0, [], (sizeI b).2)
theorem sizeI_ok (b : List Int) (h : (sizeI b).2 = 0) : (sizeI b).1 = le4 b ∧ 11 ≤ le4 b ∧ le4 b ≤ 262144 ∧ 6 ≤ b.length ∧ rd b 0 = 73 ∧ rd b 1 = 80 := by
  unfold sizeI at h ⊢
  by_cases h1 : (0 < b.length ∧ rd b 0 ≠ 73) ∨ (1 < b.length ∧ rd b 1 ≠ 80)
  · rw [if_pos h1] at h; cases h
  rw [if_neg h1] at h ⊢
  by_cases h2 : b.length < 6
  · rw [if_pos h2] at h; cases h
  rw [if_neg h2] at h ⊢
  by_cases h3 : le4 b > 262144
  · rw [if_pos h3] at h; cases h
  rw [if_neg h3] at h ⊢
  by_cases h4 : le4 b < 11
  · rw [if_pos h4] at h; cases h
  rw [if_neg h4]
  exact ⟨rfl, by omega, by omega, by omega, by omega, by omega⟩
theorem unpack_ev (b : List Int) (hB : BI b) (hn : b.length ≤ 9223372036854775800) : Ev (fun k => pack_Unpack.f k b) (unpackI b) := by
  unfold pack_Unpack.f unpackI
  refine Ev.bind (f := fun k t => _) (size_ev b hB hn) ?_
  by_cases h0 : (sizeI b).2 = 0
  · rw [if_pos h0]
    refine ev_pos h0 ?_
    obtain ⟨e1, e2, e3, e4, e5, e6⟩ := sizeI_ok b h0
    by_cases h1 : (b.length : Int) < (sizeI b).1
    · rw [if_pos h1]; exact ev_pos h1 (Ev.now _)
    rw [if_neg h1]
    refine ev_neg h1 ?_
    by_cases h2 : (b.length : Int) > (sizeI b).1
    · rw [if_pos h2]; exact ev_pos h2 (Ev.now _)
    rw [if_neg h2]
    refine ev_neg h2 ?_
    have e7 : wrap64 ((sizeI b).1 - 4) = ((b.length - 4 : Nat) : Int) := by rw [w64 (by omega) (by omega)]; omega
    rw [e7]
    refine ev_pos (by omega) (ev_pos (by omega) ?_)
    rw [Int.toNat_natCast]
    have hb1 := BI_take hB (b.length - 4)
    have hl1 : (b.take (b.length - 4)).length = b.length - 4 := by rw [List.length_take]; omega
    refine Ev.bind (f := fun k t => _) (of_ev _ hb1 (by omega)) ?_
    refine ev_some (f := fun k t => _) (four_some _) ?_
    refine Ev.bind (f := fun k t => _) (eqs_ev _ _ (by rw [List.length_drop]; omega)) ?_
    by_cases h3 : b.drop (b.length - 4) = fourI (onI 0 (b.take (b.length - 4)))
    · rw [if_pos h3]
      refine ev_pos (decide_eq_true h3) (ev_pos (by omega) ?_)
      have := unpack_loop b (by omega) b.length ((b.take (b.length - 4)).drop 7) 0 [] (by rw [List.length_drop, hl1]; omega) (BI_drop hb1 7) (by rw [List.length_drop, hl1]; simp; omega)
      have h66 := rd_BI b hB 6 (by omega)
      rw [show ((6 : Nat) : Int) = 6 from rfl] at h66
      rw [w64 (x := rd b 6) (by omega) (by omega)] at this
      simpa using this
    · rw [if_neg h3]
      exact ev_neg (by rw [decide_eq_false h3]; decide) (Ev.now _)
  · rw [if_neg h0]
    exact ev_neg h0 (Ev.now _)

theorem rd_take (l : List Int) (i m : Nat) (h : i < m) : rd (l.take m) (i : Int) = rd l (i : Int) := by
  unfold rd
  rw [Int.toNat_natCast, List.getD_eq_getElem?_getD, List.getD_eq_getElem?_getD, List.getElem?_take, if_pos h]
theorem rd_left (l r : List Int) (i : Nat) (h : i < l.length) : rd (l ++ r) (i : Int) = rd l (i : Int) := by
  unfold rd
  rw [Int.toNat_natCast, List.getD_eq_getElem?_getD, List.getD_eq_getElem?_getD, List.getElem?_append_left h]
theorem sizeI_of (b : List Int) (h6 : 6 ≤ b.length) (h0 : rd b 0 = 73) (h1 : rd b 1 = 80) (h2 : 11 ≤ le4 b) (h3 : le4 b ≤ 262144) : sizeI b = (le4 b, 0) := by
  unfold sizeI
  rw [if_neg (by omega), if_neg (by omega), if_neg (by omega), if_neg (by omega)]
theorem le4_take (b : List Int) (m : Nat) (h : 6 ≤ m) : le4 (b.take m) = le4 b := by
  unfold le4
  rw [show (2 : Int) = ((2 : Nat) : Int) from rfl, show (3 : Int) = ((3 : Nat) : Int) from rfl, show (4 : Int) = ((4 : Nat) : Int) from rfl, show (5 : Int) = ((5 : Nat) : Int) from rfl,
    rd_take b 2 m (by omega), rd_take b 3 m (by omega), rd_take b 4 m (by omega), rd_take b 5 m (by omega)]
theorem le4_left (b r : List Int) (h : 6 ≤ b.length) : le4 (b ++ r) = le4 b := by
  unfold le4
  rw [show (2 : Int) = ((2 : Nat) : Int) from rfl, show (3 : Int) = ((3 : Nat) : Int) from rfl, show (4 : Int) = ((4 : Nat) : Int) from rfl, show (5 : Int) = ((5 : Nat) : Int) from rfl,
    rd_left b r 2 (by omega), rd_left b r 3 (by omega), rd_left b r 4 (by omega), rd_left b r 5 (by omega)]
/-- Bytes that are a whole: their size stands in them. -/
def Whole (b : List Int) : Prop := sizeI b = ((b.length : Int), 0)
theorem whole_parts (b : List Int) (h : Whole b) : 11 ≤ b.length ∧ b.length ≤ 262144 ∧ le4 b = (b.length : Int) ∧ rd b 0 = 73 ∧ rd b 1 = 80 := by
  have h' : sizeI b = ((b.length : Int), 0) := h
  obtain ⟨e1, e2, e3, e4, e5, e6⟩ := sizeI_ok b (by rw [h'])
  rw [h'] at e1
  have e1' : (b.length : Int) = le4 b := e1
  exact ⟨by omega, by omega, by omega, e5, e6⟩
theorem unpack_take (b : List Int) (h : Whole b) (at_ : Nat) (hat : at_ < b.length) : unpackI (b.take at_) = (0, [], 3) := by
  obtain ⟨e1, e2, e3, e4, e5⟩ := whole_parts b h
  have hl : (b.take at_).length = at_ := by rw [List.length_take]; omega
  unfold unpackI
  by_cases h6 : at_ < 6
  · have hs : sizeI (b.take at_) = (0, 3) := by
      unfold sizeI
      rw [hl]
      rw [if_neg, if_pos h6]
      rintro (⟨h1, h2⟩ | ⟨h1, h2⟩)
      · exact h2 (by rw [show (0 : Int) = ((0 : Nat) : Int) from rfl, rd_take b 0 at_ h1]; exact e4)
      · exact h2 (by rw [show (1 : Int) = ((1 : Nat) : Int) from rfl, rd_take b 1 at_ h1]; exact e5)
    rw [hs, if_neg (by decide)]
  · have hs : sizeI (b.take at_) = ((b.length : Int), 0) := by
      rw [sizeI_of (b.take at_) (by omega) (by rw [show (0 : Int) = ((0 : Nat) : Int) from rfl, rd_take b 0 at_ (by omega)]; exact e4) (by rw [show (1 : Int) = ((1 : Nat) : Int) from rfl, rd_take b 1 at_ (by omega)]; exact e5)
        (by rw [le4_take b at_ (by omega)]; omega) (by rw [le4_take b at_ (by omega)]; omega), le4_take b at_ (by omega), e3]
    rw [hs, if_pos rfl, if_pos (by rw [hl]; dsimp only; omega)]
theorem size_left (b r : List Int) (h : Whole b) : sizeI (b ++ r) = ((b.length : Int), 0) := by
  obtain ⟨e1, e2, e3, e4, e5⟩ := whole_parts b h
  rw [sizeI_of (b ++ r) (by rw [List.length_append]; omega) (by rw [show (0 : Int) = ((0 : Nat) : Int) from rfl, rd_left b r 0 (by omega)]; exact e4) (by rw [show (1 : Int) = ((1 : Nat) : Int) from rfl, rd_left b r 1 (by omega)]; exact e5)
        (by rw [le4_left b r (by omega)]; omega) (by rw [le4_left b r (by omega)]; omega), le4_left b r (by omega), e3]
theorem unpack_behind (b r : List Int) (h : Whole b) (hr : r ≠ []) : unpackI (b ++ r) = (0, [], 4) := by
  have hl := List.length_pos_iff.2 hr
  unfold unpackI
  rw [size_left b r h, if_pos rfl, if_neg (by rw [List.length_append]; dsimp only; omega), if_pos (by rw [List.length_append]; dsimp only; omega)]

/-! what was packed -/
theorem packI_ok (kind : Int) (l : List S33) (b : List Int) (h : packI kind l = (b, 0)) : b = sealI (packB kind l) ∧ okay kind l = true ∧ small l ∧ 11 + (secs l).length ≤ 262144 := by
  unfold packI at h
  by_cases h1 : okay kind l = true
  · rw [if_pos h1] at h
    by_cases h2 : ∀ s ∈ l, s.f1.length ≤ 262144
    · rw [if_pos h2] at h
      by_cases h3 : 11 + (secs l).length ≤ 262144
      · rw [if_pos h3] at h
        exact ⟨(congrArg Prod.fst h).symm, h1, h2, h3⟩
      · rw [if_neg h3] at h; cases h
    · rw [if_neg h2] at h; cases h
  · rw [if_neg h1] at h; cases h
theorem packI_of (kind : Int) (l : List S33) (h1 : okay kind l = true) (h2 : small l) (h3 : 11 + (secs l).length ≤ 262144) : packI kind l = (sealI (packB kind l), 0) := by
  unfold packI
  rw [if_pos h1, if_pos (show ∀ s ∈ l, s.f1.length ≤ 262144 from h2), if_pos h3]
theorem packB_spell (kind : Int) (l : List S33) : packB kind l = 73 :: 80 :: ((11 + (secs l).length : Nat) : Int) % 256 :: (((11 + (secs l).length : Nat) : Int) / 256) % 256 :: (((11 + (secs l).length : Nat) : Int) / 65536) % 256 :: (((11 + (secs l).length : Nat) : Int) / 16777216) % 256 :: (kind % 256) :: secs l := by
  unfold packB fourI
  rw [show 10 + (1 + (secs l).length) = 11 + (secs l).length by omega]
  rfl
theorem seal_whole (kind : Int) (l : List S33) (h3 : 11 + (secs l).length ≤ 262144) : Whole (sealI (packB kind l)) := by
  have hl : (sealI (packB kind l)).length = 11 + (secs l).length := by rw [sealI_length, packB_length]; omega
  have e : le4 (sealI (packB kind l)) = ((11 + (secs l).length : Nat) : Int) := by
    unfold sealI
    rw [le4_left _ _ (by rw [packB_length]; omega), packB_spell]
    show ((11 + (secs l).length : Nat) : Int) % 256 + 256 * ((((11 + (secs l).length : Nat) : Int) / 256) % 256) + 65536 * ((((11 + (secs l).length : Nat) : Int) / 65536) % 256) + 16777216 * ((((11 + (secs l).length : Nat) : Int) / 16777216) % 256) = _
    omega
  unfold Whole
  rw [sizeI_of _ (by omega) (by rw [sealI, packB_spell]; rfl) (by rw [sealI, packB_spell]; rfl) (by rw [e]; omega) (by rw [e]; omega), e, hl]
theorem take_seal (b : List Int) : (sealI b).take ((sealI b).length - 4) = b ∧ (sealI b).drop ((sealI b).length - 4) = fourI (onI 0 b) := by
  rw [sealI_length, show b.length + 4 - 4 = b.length by omega]
  exact ⟨by unfold sealI; rw [List.take_left], by unfold sealI; rw [List.drop_left]⟩
theorem unpack_seal (kind : Int) (l : List S33) (h1 : okay kind l = true) (h2 : small l) (h3 : 11 + (secs l).length ≤ 262144) (hO : OKs l) : unpackI (sealI (packB kind l)) = (kind, l, 0) := by
  have hw := seal_whole kind l h3
  obtain ⟨ho1, ho2, ho3, ho4⟩ := okay_length kind l h1
  have hl : (sealI (packB kind l)).length = 11 + (secs l).length := by rw [sealI_length, packB_length]; omega
  unfold unpackI
  rw [show sizeI (sealI (packB kind l)) = (((sealI (packB kind l)).length : Int), 0) from hw, if_pos rfl, if_neg (by omega), if_neg (by omega), (take_seal _).1, (take_seal _).2, if_pos rfl]
  have e : (packB kind l).drop 7 = secs l := by rw [packB_spell]; rfl
  have hlen : l.length ≤ (secs l).length := by
    clear hw ho1 ho4 h1 h3 hl e
    induction l with
    | nil => simp
    | cons s r ih =>
      have := ih (fun x hx => h2 x (List.mem_cons_of_mem _ hx)) (fun x hx => hO x (List.mem_cons_of_mem _ hx))
      simp only [secs, secB, List.length_append, List.length_cons]; omega
  rw [e, parse_secs l 0 _ (by omega) ho4 hO h2 (by omega)]
  have e6 : rd (sealI (packB kind l)) 6 = kind % 256 := by rw [sealI, packB_spell]; rfl
  rw [e6, Int.emod_eq_of_lt (by omega) (by omega)]
theorem unpack_packI (kind : Int) (l : List S33) (b : List Int) (h : packI kind l = (b, 0)) (hO : OKs l) : unpackI b = (kind, l, 0) ∧ Whole b := by
  obtain ⟨rfl, h1, h2, h3⟩ := packI_ok kind l b h
  exact ⟨unpack_seal kind l h1 h2 h3 hO, seal_whole kind l h3⟩

/-! what can be unpacked -/
theorem unpackI_cases (b : List Int) : (unpackI b).2.2 = 0 → Whole b ∧ b.drop (b.length - 4) = fourI (onI 0 (b.take (b.length - 4))) ∧ ∃ l, parse b.length ((b.take (b.length - 4)).drop 7) 0 = some l ∧ unpackI b = (rd b 6, l, 0) := by
  intro h
  unfold unpackI at h ⊢
  by_cases h0 : (sizeI b).2 = 0
  · rw [if_pos h0] at h ⊢
    obtain ⟨e1, e2, e3, e4, e5, e6⟩ := sizeI_ok b h0
    by_cases h1 : (b.length : Int) < (sizeI b).1
    · rw [if_pos h1] at h; cases h
    rw [if_neg h1] at h ⊢
    by_cases h2 : (b.length : Int) > (sizeI b).1
    · rw [if_pos h2] at h; cases h
    rw [if_neg h2] at h ⊢
    by_cases h3 : b.drop (b.length - 4) = fourI (onI 0 (b.take (b.length - 4)))
    · rw [if_pos h3] at h ⊢
      refine ⟨?_, h3, ?_⟩
      · unfold Whole
        rw [show sizeI b = ((sizeI b).1, (sizeI b).2) from rfl, h0]
        congr 1
        omega
      · cases hp : parse b.length ((b.take (b.length - 4)).drop 7) 0 with
        | none => rw [hp] at h; cases h
        | some l => exact ⟨l, rfl, rfl⟩
    · rw [if_neg h3] at h; cases h
  · rw [if_neg h0] at h
    exact absurd h h0
theorem unpackI_bad (b : List Int) (h : ¬ (unpackI b).2.2 = 0) : (unpackI b).1 = 0 ∧ (unpackI b).2.1 = [] := by
  unfold unpackI at h ⊢
  by_cases h0 : (sizeI b).2 = 0
  · rw [if_pos h0] at h ⊢
    by_cases h1 : (b.length : Int) < (sizeI b).1
    · rw [if_pos h1]; exact ⟨rfl, rfl⟩
    rw [if_neg h1] at h ⊢
    by_cases h2 : (b.length : Int) > (sizeI b).1
    · rw [if_pos h2]; exact ⟨rfl, rfl⟩
    rw [if_neg h2] at h ⊢
    by_cases h3 : b.drop (b.length - 4) = fourI (onI 0 (b.take (b.length - 4)))
    · rw [if_pos h3] at h ⊢
      cases hp : parse b.length ((b.take (b.length - 4)).drop 7) 0 with
      | none => exact ⟨rfl, rfl⟩
      | some l => rw [hp] at h; exact absurd rfl h
    · rw [if_neg h3]; exact ⟨rfl, rfl⟩
  · rw [if_neg h0]; exact ⟨rfl, rfl⟩
theorem le4_fourI (b : List Int) (hB : BI b) (h : 6 ≤ b.length) : fourI (le4 b) = [rd b 2, rd b 3, rd b 4, rd b 5] := by
  have h2 := rd_BI b hB 2 (by omega)
  have h3 := rd_BI b hB 3 (by omega)
  have h4 := rd_BI b hB 4 (by omega)
  have h5 := rd_BI b hB 5 (by omega)
  rw [show ((2 : Nat) : Int) = 2 from rfl] at h2
  rw [show ((3 : Nat) : Int) = 3 from rfl] at h3
  rw [show ((4 : Nat) : Int) = 4 from rfl] at h4
  rw [show ((5 : Nat) : Int) = 5 from rfl] at h5
  unfold fourI le4
  generalize rd b 2 = a at *
  generalize rd b 3 = c at *
  generalize rd b 4 = d at *
  generalize rd b 5 = e at *
  rw [show (a + 256 * c + 65536 * d + 16777216 * e) % 256 = a by omega, show (a + 256 * c + 65536 * d + 16777216 * e) / 256 % 256 = c by omega, show (a + 256 * c + 65536 * d + 16777216 * e) / 65536 % 256 = d by omega, show (a + 256 * c + 65536 * d + 16777216 * e) / 16777216 % 256 = e by omega]
theorem head7 (b : List Int) (h : 7 ≤ b.length) : b = rd b 0 :: rd b 1 :: rd b 2 :: rd b 3 :: rd b 4 :: rd b 5 :: rd b 6 :: b.drop 7 := by
  match b, h with
  | x0 :: x1 :: x2 :: x3 :: x4 :: x5 :: x6 :: r, _ => rfl
theorem pack_unpackI (b : List Int) (hB : BI b) (k : Int) (l : List S33) (h : unpackI b = (k, l, 0)) : packI k l = (b, 0) ∧ OKs l ∧ okay k l = true := by
  obtain ⟨hw, hd, l', hp, hu⟩ := unpackI_cases b (by rw [h])
  rw [hu] at h
  have h1 : rd b 6 = k := congrArg Prod.fst h
  have h2 : l' = l := congrArg (fun x => x.2.1) h
  subst h2
  subst h1
  obtain ⟨e1, e2, e3, e4, e5⟩ := whole_parts b hw
  have hB1 := BI_take hB (b.length - 4)
  have hl1 : (b.take (b.length - 4)).length = b.length - 4 := by rw [List.length_take]; omega
  obtain ⟨p1, p2, p3, p4⟩ := parse_ok _ _ _ _ (BI_drop hB1 7) hp
  have h6 := rd_BI b hB 6 (by omega)
  rw [show ((6 : Nat) : Int) = 6 from rfl] at h6
  have hok : okay (rd b 6) l' = true := by
    unfold okay
    rw [decide_eq_true (by omega), Bool.true_and]
    exact p2 (by omega)
  have hsl : (secs l').length = b.length - 11 := by rw [p1, List.length_drop, hl1]; omega
  have hpb : packB (rd b 6) l' = b.take (b.length - 4) := by
    rw [head7 (b.take (b.length - 4)) (by omega), ← p1]
    have r0 := rd_take b 0 (b.length - 4) (by omega)
    have r1 := rd_take b 1 (b.length - 4) (by omega)
    have r2 := rd_take b 2 (b.length - 4) (by omega)
    have r3 := rd_take b 3 (b.length - 4) (by omega)
    have r4 := rd_take b 4 (b.length - 4) (by omega)
    have r5 := rd_take b 5 (b.length - 4) (by omega)
    have r6 := rd_take b 6 (b.length - 4) (by omega)
    have q0 : rd (b.take (b.length - 4)) 0 = 73 := r0.trans e4
    have q1 : rd (b.take (b.length - 4)) 1 = 80 := r1.trans e5
    have q2 : rd (b.take (b.length - 4)) 2 = rd b 2 := r2
    have q3 : rd (b.take (b.length - 4)) 3 = rd b 3 := r3
    have q4 : rd (b.take (b.length - 4)) 4 = rd b 4 := r4
    have q5 : rd (b.take (b.length - 4)) 5 = rd b 5 := r5
    have q6 : rd (b.take (b.length - 4)) 6 = rd b 6 := r6
    rw [q0, q1, q2, q3, q4, q5, q6]
    have hf := le4_fourI b hB (by omega)
    rw [e3] at hf
    unfold packB
    rw [show 10 + (1 + (secs l').length) = b.length by omega, hf, Int.emod_eq_of_lt (by omega) (by omega)]
    rfl
  refine ⟨?_, p3, hok⟩
  rw [packI_of _ _ hok p4 (by omega)]
  have : sealI (packB (rd b 6) l') = b := by
    rw [hpb]
    unfold sealI
    rw [← hd, List.take_append_drop]
  rw [this]

def Lw : List S33 := [⟨1, [97]⟩, ⟨4, []⟩]
def W12 : List Int := [73, 80, 16, 0, 0, 0, 7, 1, 1, 97, 4, 0]
theorem secs_Lw : secs Lw = [1, 1, 97, 4, 0] := by
  simp [secs, secB, Lw, enc_small]
theorem Lw_OK : OKs Lw := by
  intro s hs
  simp only [Lw, List.mem_cons, List.not_mem_nil, or_false] at hs
  rcases hs with rfl | rfl
  · exact BI_of _ (by decide)
  · exact BI_nil
theorem Lw_small : small Lw := by
  intro s hs
  simp only [Lw, List.mem_cons, List.not_mem_nil, or_false] at hs
  rcases hs with rfl | rfl <;> simp
theorem packB_Lw : packB 7 Lw = W12 := by
  rw [packB_spell, secs_Lw]
  simp [W12]
theorem packI_Lw : packI 7 Lw = (sealI W12, 0) := by
  rw [packI_of 7 Lw (by decide) Lw_small (by rw [secs_Lw]; simp), packB_Lw]
theorem W12_BI : BI W12 := BI_of _ (by decide)
theorem one_ev : Ev (fun k => incunablelaw03_one.f k) (sealI W12) := by
  unfold incunablelaw03_one.f
  have h := pack_ev 7 Lw (by simp [Lw]) Lw_OK (fun s hs => by have := Lw_small s hs; omega)
  rw [packI_Lw] at h
  exact Ev.bind (f := fun k t => _) h (ev_pos rfl (Ev.now _))
theorem xor1 (c : Int) (h0 : 0 ≤ c) (h1 : c < 256) : 0 ≤ Go.bits .xor .u8 c 1 ∧ Go.bits .xor .u8 c 1 < 256 ∧ Go.bits .xor .u8 c 1 ≠ c := by
  obtain ⟨d, rfl⟩ := Int.eq_ofNat_of_zero_le h0
  rw [show (1 : Int) = ((1 : Nat) : Int) from rfl, u8_xor_nat d 1 (by omega) (by omega)]
  have : d ^^^ 1 < 256 := Nat.xor_lt_two_pow (n := 8) (by omega) (by omega)
  have h2 : d ^^^ 1 ≠ d := fun e => by
    have := congrArg (fun z => d ^^^ z) e
    simp only [← Nat.xor_assoc, Nat.xor_self, Nat.zero_xor] at this
    omega
  omega
theorem works_ev : Ev (fun k => incunablelaw03_works.f k) true := by
  have hs := onI0_range W12 W12_BI
  have hu : unpackI (sealI W12) = (7, Lw, 0) := by
    have := unpack_packI 7 Lw _ packI_Lw Lw_OK
    exact this.1
  have hw : Whole (sealI W12) := (unpack_packI 7 Lw _ packI_Lw Lw_OK).2
  have hB : BI (sealI W12) := BI_append W12_BI (fourI_BI _)
  have hl : (sealI W12).length = 16 := rfl
  unfold incunablelaw03_works.f
  refine Ev.bind (f := fun k t => _) one_ev (ev_pos (by rw [hl]; rfl) (ev_pos (by rw [hl]; omega) ?_))
  refine Ev.bind (f := fun k t => _) (same_ev _ _ (show (sealI W12).take 12 = _ from rfl) (by rw [List.length_take, hl]; omega)) ?_
  refine Ev.step (f := fun k => _) (fun k => by simp only [incunablelaw03_works.j0]; rfl) ?_
  refine ev_neg (by decide) (ev_pos (by rw [hl]; omega) ?_)
  rw [show (sealI W12).take 12 = W12 from rfl]
  refine Ev.bind (f := fun k t => _) (of_ev W12 W12_BI (by decide)) ?_
  refine Ev.bind (f := fun k t => _) (size_ev _ hB (by rw [hl]; omega)) ?_
  rw [show sizeI (sealI W12) = (((sealI W12).length : Int), 0) from hw]
  refine Ev.bind (f := fun k t => _) (unpack_ev _ hB (by rw [hl]; omega)) ?_
  rw [hu]
  refine ev_pos (by rw [hl]; omega) ?_
  refine Ev.bind (f := fun k t => _) (unpack_ev _ (BI_take hB 15) (by rw [List.length_take, hl]; omega)) ?_
  rw [unpack_take _ hw 15 (by rw [hl]; omega)]
  refine ev_some (f := fun k t => _) (copy_some _ (by rw [hl]; omega)) ?_
  refine ev_pos (by rw [hl]; omega) ?_
  refine Ev.bind (f := fun k t => _) (unpack_ev _ (BI_append hB (BI_of [0] (by decide))) (by rw [List.length_append, hl]; decide)) ?_
  rw [unpack_behind _ _ hw (by simp)]
  refine ev_pos (by rw [hl]; omega) ?_
  refine ev_some (f := fun k t => _) rfl ?_
  generalize hsv : onI 0 W12 = s at hs
  have hr : rd (sealI W12) 15 = (s / 16777216) % 256 := by rw [← hsv]; rfl
  rw [hr]
  obtain ⟨x0, x1, x2⟩ := xor1 ((s / 16777216) % 256) (by omega) (by omega)
  generalize hv : Go.bits .xor .u8 ((s / 16777216) % 256) 1 = v at x0 x1 x2
  have hset : (sealI W12).set (15 : Int).toNat v = W12 ++ [s % 256, (s / 256) % 256, (s / 65536) % 256, v] := by rw [← hsv]; rfl
  rw [hset]
  have hB4 : BI [s % 256, (s / 256) % 256, (s / 65536) % 256, v] := by
    refine BI_cons ?_ ?_ (BI_cons ?_ ?_ (BI_cons ?_ ?_ (BI_cons x0 x1 BI_nil))) <;> omega
  have hBs : BI (W12 ++ [s % 256, (s / 256) % 256, (s / 65536) % 256, v]) := BI_append W12_BI hB4
  have hls : (W12 ++ [s % 256, (s / 256) % 256, (s / 65536) % 256, v]).length = 16 := rfl
  refine Ev.bind (f := fun k t => _) (unpack_ev _ hBs (by rw [hls]; omega)) ?_
  have hul : (unpackI (W12 ++ [s % 256, (s / 256) % 256, (s / 65536) % 256, v])).2.2 = 30 := by
    have hsz : sizeI (W12 ++ [s % 256, (s / 256) % 256, (s / 65536) % 256, v]) = (16, 0) := by
      have e : le4 (W12 ++ [s % 256, (s / 256) % 256, (s / 65536) % 256, v]) = 16 := rfl
      rw [sizeI_of _ (by rw [hls]; omega) rfl rfl (by rw [e]; omega) (by rw [e]; omega), e]
    unfold unpackI
    rw [hsz, if_pos rfl, if_neg (by rw [hls]; decide), if_neg (by rw [hls]; decide), hls]
    rw [show (W12 ++ [s % 256, (s / 256) % 256, (s / 65536) % 256, v]).take (16 - 4) = W12 from rfl, show (W12 ++ [s % 256, (s / 256) % 256, (s / 65536) % 256, v]).drop (16 - 4) = [s % 256, (s / 256) % 256, (s / 65536) % 256, v] from rfl, hsv]
    rw [if_neg]
    intro h
    unfold fourI at h
    simp only [List.cons.injEq, and_true, true_and] at h
    exact x2 h
  refine Ev.bind (f := fun k t => _) (same_ev _ _ (show (W12 ++ [s % 256, (s / 256) % 256, (s / 65536) % 256, v]).drop 12 = _ from rfl) (by rw [List.length_drop, hls]; omega)) ?_
  refine ev_pos rfl (ev_pos rfl (ev_pos (by rw [hl]; rfl) (ev_pos rfl (ev_pos rfl (ev_pos rfl (ev_pos (by decide) (ev_pos rfl ?_)))))))
  refine Ev.bind (f := fun k t => _) (same_ev _ _ (show (rd_T33 Lw 0).f1 = [97] from rfl) (by decide)) ?_
  refine ev_pos rfl (ev_pos rfl (ev_pos rfl ?_))
  rw [hul]
  exact Ev.now _

/-! made -/
end Go.Proofs.Ytpmikaoheaefiaa.Pure
