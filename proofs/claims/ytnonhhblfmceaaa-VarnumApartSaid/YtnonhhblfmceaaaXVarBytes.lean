/- bytes.Equal and bytes.HasPrefix, as they are here. -/
import Derived.Test.YtnonhhblfmceaaaXx13
import Derived.Test.YtnonhhblfmceaaaXx23
import Derived.Test.YtnonhhblfmceaaaXVarTexts
import Derived.Lib.Bytes
namespace Go.Proofs.Ytnonhhblfmceaaa.Pure
set_option linter.unusedVariables false
open Go.RowKit Go.Proofs.Ytnonhhblfmceaaa.X Go.Proofs.YtnonhhblfmceaaaW.PrintWords Go.Proofs.YtnonhhblfmceaaaW.PrintLast Go.Proofs.YtnonhhblfmceaaaW.PrintMore

theorem str_inj (a b : List Int) (ha : BI a) (hb : BI b) (h : (strOfNums a).toList = (strOfNums b).toList) : a = b := by
  have back : ∀ l : List Int, BI l → ((strOfNums l).toList).map (fun b => (b.toNat : Int)) = l := by
    intro l hl
    rw [Go.Lib.strOfNums_toList]
    show (l.map _).map _ = l
    rw [List.map_map]
    conv => rhs; rw [← List.map_id l]
    apply List.map_congr_left
    intro x hx
    have := hl x hx
    simp only [Function.comp, id, UInt8.toNat_ofNat']
    omega
  rw [← back a ha, h, back b hb]
theorem bytes_Equal_some (a b : List Int) (ha : BI a) (hb : BI b) : bytes_Equal.f a b = some (decide (a = b)) := by
  unfold bytes_Equal.f
  congr 1
  by_cases h : a = b
  · subst h; simp
  · rw [decide_eq_false h, beq_eq_false_iff_ne]
    intro e
    exact h (str_inj a b ha hb e)
theorem hasPrefix_some (a b : List Int) (ha : BI a) (hb : BI b) : bytes_HasPrefix.f a b = some (decide (a.take b.length = b)) := by
  unfold bytes_HasPrefix.f
  by_cases h : b.length ≤ a.length
  · rw [if_pos (by omega), if_pos (by omega), if_pos (by omega), Int.toNat_natCast, bytes_Equal_some _ _ (BI_take ha _) hb]
    rfl
  · rw [if_neg (by omega), decide_eq_false]
    intro e
    have := congrArg List.length e
    rw [List.length_take] at this
    omega
theorem enc_prefix (n m : Nat) (r q : List Int) (hn : n ≤ 9007199254740991) (hm : m ≤ 9007199254740991) (h : enc n ++ r = enc m ++ q) : n = m ∧ r = q := by
  have h1 := tk_enc n r hn
  rw [h, tk_enc m q hm] at h1
  have : n = m := by have := congrArg (fun z => z.1) h1; simp at this; omega
  subst this
  exact ⟨rfl, List.append_cancel_left h⟩
theorem num_prefix (n m : Nat) (hn : n ≤ 9007199254740991) (hm : m ≤ 9007199254740991) : (enc n).take (enc m).length = enc m ↔ n = m := by
  constructor
  · intro h
    have h2 : enc n ++ [] = enc m ++ (enc n).drop (enc m).length := by
      conv => rhs; rw [← h]
      rw [List.append_nil, List.length_take]
      by_cases h3 : (enc m).length ≤ (enc n).length
      · rw [Nat.min_eq_left h3, List.take_append_drop]
      · have := congrArg List.length h
        rw [List.length_take] at this
        omega
    exact (enc_prefix n m _ _ hn hm h2).1
  · rintro rfl
    exact List.take_length
theorem text_prefix (s t : List Int) (hs : s.length ≤ 9007199254740991) (ht : t.length ≤ 9007199254740991) : (enc s.length ++ s).take (enc t.length ++ t).length = enc t.length ++ t ↔ s = t := by
  constructor
  · intro h
    have h2 : enc s.length ++ s = enc t.length ++ (t ++ (enc s.length ++ s).drop (enc t.length ++ t).length) := by
      rw [← List.append_assoc]
      conv => rhs; lhs; rw [← h]
      rw [List.take_append_drop]
    obtain ⟨h3, h4⟩ := enc_prefix _ _ _ _ hs ht h2
    rw [h4] at h3
    rw [List.length_append] at h3
    rw [List.eq_nil_of_length_eq_zero (show ((enc s.length ++ s).drop (enc t.length ++ t).length).length = 0 by omega), List.append_nil] at h4
    exact h4
  · rintro rfl
    exact List.take_length
end Go.Proofs.Ytnonhhblfmceaaa.Pure
