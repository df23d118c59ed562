/- VarnumApart: no number's bytes, no text's bytes, are the beginning of another one's. -/
import Derived.Test.YtnonhhblfmceaaaXx24
import Derived.Test.YtnonhhblfmceaaaXVarBytes
namespace Go.Proofs.Ytnonhhblfmceaaa.Pure
set_option linter.unusedVariables false
open Go.RowKit Go.Proofs.Ytnonhhblfmceaaa.X Go.Proofs.YtnonhhblfmceaaaW.PrintWords Go.Proofs.YtnonhhblfmceaaaW.PrintLast Go.Proofs.YtnonhhblfmceaaaW.PrintMore

theorem VarnumApart : incunablelaw01_VarnumApart.Pure := by
  intro a b s t ha hb hsm hsl hsw htm htl htw
  have hBs := BI_wf hsw
  have hBt := BI_wf htw
  have ha := wf_i64 ha
  have hb := wf_i64 hb
  refine Ev.rounds ?_
  unfold incunablelaw01_VarnumApart.f
  refine Ev.bind (f := fun k t => _) works_ev (ev_pos rfl ?_)
  obtain ⟨c1, c2, c3⟩ := cut5 s
  obtain ⟨d1, d2, d3⟩ := cut5 t
  refine ev_pos c1 (ev_pos c2 (ev_pos d1 (ev_pos d2 ?_)))
  have hB2 := BI_take hBs (mn (s.length : Int) 5000).toNat
  have hB3 := BI_take hBt (mn (t.length : Int) 5000).toNat
  generalize s.take (mn (s.length : Int) 5000).toNat = s at c3 hB2
  generalize t.take (mn (t.length : Int) 5000).toNat = t at d3 hB3
  obtain ⟨n, hn, hn2⟩ := number_some a ha.1 ha.2
  obtain ⟨m, hm, hm2⟩ := number_some b hb.1 hb.2
  refine ev_some (f := fun k t => _) hn ?_
  refine Ev.bind (f := fun k t => _) (num_ev _) ?_
  rw [numI_ok n hn2]
  refine ev_some (f := fun k t => _) hm ?_
  refine Ev.bind (f := fun k t => _) (num_ev _) ?_
  rw [numI_ok m hm2]
  refine Ev.bind (f := fun k t => _) (text_ev s _ (by omega)) ?_
  rw [textI_ok s _ (by omega)]
  refine Ev.bind (f := fun k t => _) (text_ev t _ (by omega)) ?_
  rw [textI_ok t _ (by omega)]
  refine ev_pos rfl (ev_pos rfl (ev_pos rfl (ev_pos rfl ?_)))
  refine ev_some (f := fun k t => _) (hasPrefix_some _ _ (enc_BI n n (by omega)) (enc_BI m m (by omega))) ?_
  refine ev_some (f := fun k t => _) hn (ev_some (f := fun k t => _) hm ?_)
  refine ev_pos ?_ ?_
  · rw [beq_iff_eq]
    by_cases h : n = m
    · subst h
      rw [decide_eq_true ((num_prefix n n hn2 hn2).2 rfl)]; simp
    · rw [decide_eq_false (fun e => h ((num_prefix n m hn2 hm2).1 e))]
      symm
      rw [beq_eq_false_iff_ne]
      omega
  · refine ev_some (f := fun k t => _) (hasPrefix_some _ _ (BI_append (enc_BI s.length s.length (by omega)) hB2) (BI_append (enc_BI t.length t.length (by omega)) hB3)) ?_
    refine ev_some (f := fun k t => _) (bytes_Equal_some s t hB2 hB3) (ev_eq ?_ (Ev.now _))
    rw [beq_iff_eq]
    by_cases h : s = t
    · rw [decide_eq_true h, decide_eq_true ((text_prefix s t (by omega) (by omega)).2 h)]
    · rw [decide_eq_false h, decide_eq_false (fun e => h ((text_prefix s t (by omega) (by omega)).1 e))]
end Go.Proofs.Ytnonhhblfmceaaa.Pure
