/- VarnumJoin: Join returns what the document says, of all lists of bytes whose bulk is at most 1048576; memory likewise. -/
import Derived.Test.YtnonhhblfmceaaaXrVarnumJoin
import Derived.Test.YtnonhhblfmceaaaXVarJoin
namespace Go.Proofs.Ytnonhhblfmceaaa.Pure
set_option linter.unusedVariables false
open Go.RowKit Go.Proofs.Ytnonhhblfmceaaa.X Go.Proofs.YtnonhhblfmceaaaW.PrintWords Go.Proofs.YtnonhhblfmceaaaW.PrintLast Go.Proofs.YtnonhhblfmceaaaW.PrintMore

theorem same_loop (l : List (List Int)) (hn : l.length ≤ 1048576) (hs : l.flatten.length ≤ 1048576) (d : Nat) : ∀ i : Nat, i + d = l.length → Ev (fun k => incunablelaw01_VarnumJoin.l1 k l l (i : Int)) true := by
  induction d with
  | zero =>
    intro i hi
    refine Ev.step (f := fun k => _) (fun k => by simp only [incunablelaw01_VarnumJoin.l1]; rfl) ?_
    refine ev_neg (by omega) ?_
    exact Ev.bind (f := fun _ t => some t) works_ev (Ev.now _)
  | succ d ih =>
    intro i hi
    refine Ev.step (f := fun k => _) (fun k => by simp only [incunablelaw01_VarnumJoin.l1]; rfl) ?_
    have h2 := row_le l i (by omega)
    rw [rd_row l i (by omega)]
    refine ev_pos (by omega) (ev_pos (by omega) (ev_pos (by omega) ?_))
    refine Ev.bind (f := fun k t => _) (same_ev _ _ rfl (by omega)) (ev_pos rfl ?_)
    rw [w64 (by omega) (by omega)]
    exact ih (i + 1) (by omega)
theorem copies_loop (l : List (List Int)) (hn : l.length ≤ 1048576) (hs : l.flatten.length ≤ 1048576) (d : Nat) : ∀ i : Nat, i + d = l.length → Ev (fun k => incunablelaw01_VarnumJoin.l0 k l (l.take i) (i : Int)) true := by
  induction d with
  | zero =>
    intro i hi
    refine Ev.step (f := fun k => _) (fun k => by simp only [incunablelaw01_VarnumJoin.l0]; rfl) ?_
    refine ev_neg (by omega) ?_
    rw [List.take_of_length_le (by omega)]
    refine Ev.bind (f := fun k t => _) (join_ev l hn hs) ?_
    refine Ev.bind (f := fun k t => _) (rjoin_ev l hn hs) ?_
    refine Ev.bind (f := fun k t => _) (same_ev _ _ rfl (by omega)) (ev_pos rfl ?_)
    obtain ⟨r, hr⟩ := spoil_ev l.flatten (by omega)
    refine Ev.bind (f := fun k t => _) hr ?_
    exact same_loop l hn hs l.length 0 (by omega)
  | succ d ih =>
    intro i hi
    refine Ev.step (f := fun k => _) (fun k => by simp only [incunablelaw01_VarnumJoin.l0]; rfl) ?_
    have h2 := row_le l i (by omega)
    rw [rd_row l i (by omega)]
    refine ev_pos (by omega) (ev_pos (by omega) ?_)
    refine ev_some (f := fun k t => _) (copy_some _ (by omega)) (ev_pos (by rw [List.length_take]; omega) ?_)
    rw [← List.take_succ_eq_append_getElem (by omega), w64 (by omega) (by omega)]
    exact ih (i + 1) (by omega)
theorem VarnumJoin : incunablelaw01_VarnumJoin.Pure := by
  intro l hm hb hw
  rw [← List.length_flatten] at hb
  refine Ev.rounds ?_
  unfold incunablelaw01_VarnumJoin.f
  exact copies_loop l (by omega) (by omega) l.length 0 (by omega)
end Go.Proofs.Ytnonhhblfmceaaa.Pure
