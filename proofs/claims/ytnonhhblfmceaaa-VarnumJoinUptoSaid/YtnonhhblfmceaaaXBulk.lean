/-
What the bound of an '..UptoSaid' gives: how many rows, how many numbers in all.
-/
import Derived.Test.YtnonhhblfmceaaaRows
import Derived.Test.YtnonhhblfmceaaaXRows2
namespace Go.Proofs.YtnonhhblfmceaaaW.Rows
open Go.ChangeShapes Go.WideShapes
set_option linter.unusedVariables false
variable {H : Type}
theorem bulk_lits (k : IntKind) (r : List Int) : Go.Proofs.Ytnonhhblfmceaaa.Rows.uptoBulkAll (lits (H := H) k r) = r.length := by
  induction r with
  | nil => rfl
  | cons x r ih =>
    have : lits (H := H) k (x :: r) = DataW.lit (.int k x) :: lits k r := rfl
    rw [this, Go.Proofs.Ytnonhhblfmceaaa.Rows.uptoBulkAll, ih]
    simp [Go.Proofs.Ytnonhhblfmceaaa.Rows.uptoBulk]; omega
theorem bulk_row {k : IntKind} {r : List Int} {z : DataW H} (h : RowDat k r z) : r.length + 1 ≤ Go.Proofs.Ytnonhhblfmceaaa.Rows.uptoBulk z := by
  rcases h with ⟨rfl, rfl⟩ | ⟨s, rfl⟩
  · simp [Go.Proofs.Ytnonhhblfmceaaa.Rows.uptoBulk]
  · simp only [Go.Proofs.Ytnonhhblfmceaaa.Rows.uptoBulk, bulk_lits]; omega
theorem bulk_each {k : IntKind} : ∀ (els : List (DataW H)) (l : List (List Int)), els.length = l.length → (∀ (j : Nat) (r : List Int), l[j]? = some r → ∃ z, els[j]? = some z ∧ RowDat k r z) → l.length + (l.map List.length).sum ≤ Go.Proofs.Ytnonhhblfmceaaa.Rows.uptoBulkAll els
  | [], [], _, _ => by simp
  | [], _ :: _, h, _ => by simp at h
  | _ :: _, [], h, _ => by simp at h
  | z :: els, r :: l, h, hj => by
    have h1 := bulk_each els l (by simpa using h) (fun j r hr => by simpa using hj (j + 1) r (by simpa using hr))
    obtain ⟨z', e, h2⟩ := hj 0 r rfl
    obtain rfl : z = z' := by simpa using e
    have h3 := bulk_row h2
    simp only [List.map_cons, List.sum_cons, List.length_cons, Go.Proofs.Ytnonhhblfmceaaa.Rows.uptoBulkAll]
    omega
theorem bulk_rows {k : IntKind} {l : List (List Int)} {d : DataW H} (h : RowsDat k l d) : l.length + (l.map List.length).sum ≤ Go.Proofs.Ytnonhhblfmceaaa.Rows.uptoBulk d := by
  rcases h with ⟨rfl, rfl⟩ | ⟨els, sp, rfl, hl, hj⟩
  · simp
  · have := bulk_each els l hl hj
    simp only [Go.Proofs.Ytnonhhblfmceaaa.Rows.uptoBulk]; omega
theorem bulk_part {d : DataW H} {l : List (DataW H)} (h : d ∈ l) (hk : Go.Proofs.Ytnonhhblfmceaaa.Rows.uptoSmall H l = true) : Go.Proofs.Ytnonhhblfmceaaa.Rows.uptoBulk d ≤ 1048576 := by
  have hb : Go.Proofs.Ytnonhhblfmceaaa.Rows.uptoBulkAll l ≤ 1048576 := by simpa [Go.Proofs.Ytnonhhblfmceaaa.Rows.uptoSmall] using hk
  clear hk
  induction l with
  | nil => cases h
  | cons x r ih =>
    simp only [Go.Proofs.Ytnonhhblfmceaaa.Rows.uptoBulkAll] at hb
    rcases List.mem_cons.1 h with rfl | h
    · omega
    · exact ih h (by omega)
end Go.Proofs.YtnonhhblfmceaaaW.Rows
