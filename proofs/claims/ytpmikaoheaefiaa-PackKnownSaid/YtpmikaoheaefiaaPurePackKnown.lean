/- PackKnown: both ends, what is refused, and which error comes first (closed). -/
import Derived.Test.YtpmikaoheaefiaaXx9
import Derived.Test.YtpmikaoheaefiaaXx8
import Derived.Test.YtpmikaoheaefiaaXPkB
import Derived.Test.YtpmikaoheaefiaaXrPackKnown
namespace Go.Proofs.Ytpmikaoheaefiaa.Pure
set_option linter.unusedVariables false
set_option linter.unusedSimpArgs false
open Go.RowKit Go.Proofs.Ytpmikaoheaefiaa.X Go.Proofs.YtpmikaoheaefiaaW.PrintWords Go.Proofs.YtpmikaoheaefiaaW.PrintLast Go.Proofs.YtpmikaoheaefiaaW.PrintMore
theorem enc_len (s : Nat) : ∀ n, n < 2 ^ (7 * (s + 1)) → (s = 0 ∨ 2 ^ (7 * s) ≤ n) → (enc n).length = s + 1 := by
  induction s with
  | zero => intro n h _; rw [enc_small n (by simpa using h)]; rfl
  | succ s ih =>
    intro n h hs
    have hs : 2 ^ (7 * (s + 1)) ≤ n := by omega
    have h128 : 128 ≤ 2 ^ (7 * (s + 1)) := Nat.pow_le_pow_right (n := 2) (i := 7) (by omega) (by omega)
    rw [enc_big n (by omega), List.length_cons, ih (n / 128)]
    · rw [show 7 * (s + 1 + 1) = 7 * (s + 1) + 7 by omega, Nat.pow_add] at h
      omega
    · right
      rw [show 7 * (s + 1) = 7 * s + 7 by omega, Nat.pow_add] at hs
      omega

def isBad (l : List Int) : Bool := (parse (11 + l.length) l 0).isNone
theorem wrong_ev (l : List Int) (hB : BI l) (hn : l.length ≤ 100) : Ev (fun k => incunablelaw03_wrong.f k l) (isBad l) := by
  unfold incunablelaw03_wrong.f
  refine ev_some (f := fun k t => _) rfl ?_
  have e1 : (wrap64 (11 + (l.length : Int))) % 256 = ((11 + l.length : Nat) : Int) := by rw [w64 (by omega) (by omega)]; omega
  rw [e1]
  refine ev_pos (by simp; omega) ?_
  refine ev_some (f := fun k t => _) rfl ?_
  have hx : BI ([73, 80, ((11 + l.length : Nat) : Int), 0, 0, 0, 3] ++ l) := BI_append (BI_cons (by omega) (by omega) (BI_cons (by omega) (by omega) (BI_cons (by omega) (by omega) (BI_of [0, 0, 0, 3] (by decide))))) hB
  have hxl : ([73, 80, ((11 + l.length : Nat) : Int), 0, 0, 0, 3] ++ l).length = 7 + l.length := by simp; omega
  generalize hxe : [73, 80, ((11 + l.length : Nat) : Int), 0, 0, 0, 3] ++ l = x at hx hxl
  refine Ev.bind (f := fun k t => _) (of_ev x hx (by omega)) ?_
  refine ev_some (f := fun k t => _) rfl ?_
  refine ev_pos (by simp only [List.length_cons, List.length_nil]; omega) ?_
  have hs : x ++ [(onI 0 x) % 256, (onI 0 x / 256) % 256, (onI 0 x / 65536) % 256, (onI 0 x / 16777216) % 256] = sealI x := rfl
  rw [hs]
  have hsB : BI (sealI x) := BI_append hx (fourI_BI _)
  have hsl : (sealI x).length = 11 + l.length := by rw [sealI_length]; omega
  refine Ev.bind (f := fun k t => _) (unpack_ev (sealI x) hsB (by omega)) ?_
  refine ev_eq ?_ (Ev.now _)
  have h0 : rd (sealI x) 0 = 73 := by rw [← hxe]; rfl
  have h1 : rd (sealI x) 1 = 80 := by rw [← hxe]; rfl
  have h4 : le4 (sealI x) = ((11 + l.length : Nat) : Int) := by
    have : le4 (sealI x) = ((11 + l.length : Nat) : Int) + 256 * 0 + 65536 * 0 + 16777216 * 0 := by rw [← hxe]; rfl
    omega
  have hsz : sizeI (sealI x) = (((11 + l.length : Nat) : Int), 0) := by rw [sizeI_of _ (by omega) h0 h1 (by omega) (by omega), h4]
  unfold unpackI isBad
  rw [hsz, if_pos rfl, if_neg (by dsimp only; omega), if_neg (by dsimp only; omega), (take_seal x).1, (take_seal x).2, if_pos rfl, hsl]
  have hd : x.drop 7 = l := by rw [← hxe]; rfl
  rw [hd]
  cases parse (11 + l.length) l 0 with
  | none => rfl
  | some s => rfl
theorem kb0 : isBad [1, 0, 0] = true := by decide
theorem kb1 : isBad [2, 0, 1, 0] = true := by decide
theorem kb2 : isBad [1, 128, 0] = true := by decide
theorem kb3 : isBad [1] = true := by decide
theorem kb4 : isBad [1, 5, 0] = true := by decide
theorem kb5 : isBad [1, 0, 2, 1, 9] = false := by decide
theorem ok1 (t : List Int) : okay 255 [⟨255, t⟩] = true := by simp [okay, chk]
theorem ok2 (t : List Int) : okay 0 [⟨1, t⟩] = true := by simp [okay, chk]
theorem ok3 (t : List Int) : okay 0 [⟨2, t⟩, ⟨1, []⟩] = false := by simp [okay, chk]
theorem packI_err (kind : Int) (l : List S33) (h : okay kind l = false) : packI kind l = ([], 2) := by
  unfold packI
  rw [h]
  rfl
theorem OKs_nil1 (t : Int) (d : List Int) (hd : BI d) : OKs [⟨t, d⟩] := fun s hs => by rw [List.mem_singleton.1 hs]; exact hd
/-- PackKnown behind its 'big'. -/
def known (k : Nat) (y279 : List Int) : Option (Bool) := (if 262129 ≤ (y279.length : Int) then ((pack_Pack.f k 255 (([(⟨255, (y279.take 262129)⟩ : S33)] : List (S33)))).bind fun bt290 => ((pack_Pack.f k 255 (([(⟨255, y279⟩ : S33)] : List (S33)))).bind fun bt297 => (if y279.length + y279.length < 225179981368000 then ((pack_Pack.f k 0 (([(⟨1, (y279 ++ y279)⟩ : S33)] : List (S33)))).bind fun bt307 => ((pack_Pack.f k 256 ([] : List (S33))).bind fun bt311 => ((pack_Pack.f k (-1) ([] : List (S33))).bind fun bt315 => ((pack_Pack.f k 0 (([(⟨0, ([] : List Int)⟩ : S33)] : List (S33)))).bind fun bt322 => ((pack_Pack.f k 0 (([(⟨256, ([] : List Int)⟩ : S33)] : List (S33)))).bind fun bt329 => ((pack_Pack.f k 0 (([(⟨2, ([] : List Int)⟩ : S33), (⟨2, ([] : List Int)⟩ : S33)] : List (S33)))).bind fun bt336 => ((pack_Pack.f k 0 (([(⟨2, (y279 ++ y279)⟩ : S33), (⟨1, ([] : List Int)⟩ : S33)] : List (S33)))).bind fun bt346 => ((pack_Pack.f k 0 ([] : List (S33))).bind fun bt350 => (if bt290.2 = 0 then (if (bt290.1.length : Int) = 262144 then (if bt297.2 = 5 then (if bt307.2 = 5 then (if bt311.2 = 2 then (if bt315.2 = 2 then (if bt322.2 = 2 then (if bt329.2 = 2 then (if bt336.2 = 2 then (if bt346.2 = 2 then (if bt350.2 = 0 then ((pack_Size.f k ([] : List Int)).bind fun bt354 => ((pack_Size.f k (([72] : List Int))).bind fun bt359 => ((pack_Size.f k (([73, 80, 0, 0, 4] : List Int))).bind fun bt364 => ((pack_Size.f k (([73, 81, 0] : List Int))).bind fun bt369 => ((pack_Size.f k (([73, 80, 1, 0, 4, 0] : List Int))).bind fun bt374 => ((pack_Size.f k (([73, 80, 0, 0, 4, 0] : List Int))).bind fun bt379 => ((pack_Size.f k (([73, 80, 10, 0, 0, 0] : List Int))).bind fun bt384 => (if bt354.2 = 3 then (if bt359.2 = 4 then (if bt364.2 = 3 then (if bt369.2 = 4 then (if bt374.2 = 5 then (if bt379.2 = 0 then (if bt379.1 = 262144 then ((incunablelaw03_works.f k).bind fun t386 => (if t386 = true then (if (bt350.1.length : Int) = 11 then (if bt384.2 = 4 then ((incunablelaw03_wrong.f k (([1, 0, 0] : List Int))).bind fun t390 => (if t390 = true then ((incunablelaw03_wrong.f k (([2, 0, 1, 0] : List Int))).bind fun t394 => (if t394 = true then ((incunablelaw03_wrong.f k (([1, 128, 0] : List Int))).bind fun t398 => (if t398 = true then ((incunablelaw03_wrong.f k (([1] : List Int))).bind fun t402 => (if t402 = true then ((incunablelaw03_wrong.f k (([1, 5, 0] : List Int))).bind fun t406 => (if t406 = true then ((incunablelaw03_wrong.f k (([1, 0, 2, 1, 9] : List Int))).bind fun t410 => (some (!t410))) else (none))) else (none))) else (none))) else (none))) else (none))) else (none)) else (none)) else (none))) else (none)) else (none)) else (none)) else (none)) else (none)) else (none)) else (none))))))))) else (none)) else (none)) else (none)) else (none)) else (none)) else (none)) else (none)) else (none)) else (none)) else (none)) else (none)))))))))) else (none)))) else (none))
theorem known_ev (y : List Int) (hyl : y.length = 262130) (hyB : BI y) : Ev (fun k => known k y) true := by
  unfold known
  refine ev_pos (by omega) ?_
  have htl : (y.take 262129).length = 262129 := by rw [List.length_take]; omega
  have htB := BI_take hyB 262129
  have hyyl : (y ++ y).length = 524260 := by rw [List.length_append]; omega
  have hyyB := BI_append hyB hyB
  generalize y.take 262129 = t at htl htB ⊢
  have E1 := enc_len 2 262129 (by decide) (.inr (by decide))
  have E2 := enc_len 2 262130 (by decide) (.inr (by decide))
  have P1 : packI 255 [⟨255, t⟩] = (sealI (packB 255 [⟨255, t⟩]), 0) := packI_of 255 _ (ok1 _) (fun s hs => by rw [List.mem_singleton.1 hs]; dsimp only; omega) (by simp only [secs, secB, List.length_append, List.length_cons, List.length_nil]; rw [htl, E1]; omega)
  have L1 : (sealI (packB 255 [⟨255, t⟩])).length = 262144 := by rw [sealI_length, packB_length]; simp only [secs, secB, List.length_append, List.length_cons, List.length_nil]; rw [htl, E1]
  have P2 : packI 255 [⟨255, y⟩] = ([], 5) := by
    unfold packI
    rw [if_pos (ok1 _), if_pos (fun s hs => by rw [List.mem_singleton.1 hs]; dsimp only; omega), if_neg]
    simp only [secs, secB, List.length_append, List.length_cons, List.length_nil]
    rw [hyl, E2]; omega
  have P3 : packI 0 [⟨1, y ++ y⟩] = ([], 5) := by
    unfold packI
    rw [if_pos (ok2 _), if_neg]
    intro h
    have := h _ List.mem_cons_self
    dsimp only at this
    omega
  have P10 : packI 0 [] = (sealI (packB 0 []), 0) := packI_of 0 [] (by decide) (fun s hs => by cases hs) (by decide)
  have B1 := pack_ev 255 [⟨255, t⟩] (by simp) (OKs_nil1 _ _ htB) (fun s hs => by rw [List.mem_singleton.1 hs]; dsimp only; omega)
  rw [P1] at B1
  refine Ev.bind (f := fun k t => _) B1 ?_
  have B2 := pack_ev 255 [⟨255, y⟩] (by simp) (OKs_nil1 _ _ hyB) (fun s hs => by rw [List.mem_singleton.1 hs]; dsimp only; omega)
  rw [P2] at B2
  refine Ev.bind (f := fun k t => _) B2 ?_
  refine ev_pos (by omega) ?_
  have B3 := pack_ev 0 [⟨1, y ++ y⟩] (by simp) (OKs_nil1 _ _ hyyB) (fun s hs => by rw [List.mem_singleton.1 hs]; dsimp only; omega)
  rw [P3] at B3
  refine Ev.bind (f := fun k t => _) B3 ?_
  have z (kind : Int) (l : List S33) (hk : okay kind l = false) (hn : l.length ≤ 10) (hO : OKs l) (hb : ∀ s ∈ l, s.f1.length ≤ 140737488355300) : Ev (fun k => pack_Pack.f k kind l) ([], 2) := by
    have := pack_ev kind l (by omega) hO hb
    rwa [packI_err kind l hk] at this
  refine Ev.bind (f := fun k t => _) (z 256 [] (by decide) (by decide) (fun s hs => by cases hs) (fun s hs => by cases hs)) ?_
  refine Ev.bind (f := fun k t => _) (z (-1) [] (by decide) (by decide) (fun s hs => by cases hs) (fun s hs => by cases hs)) ?_
  refine Ev.bind (f := fun k t => _) (z 0 [⟨0, []⟩] (by decide) (by decide) (OKs_nil1 _ _ BI_nil) (fun s hs => by rw [List.mem_singleton.1 hs]; decide)) ?_
  refine Ev.bind (f := fun k t => _) (z 0 [⟨256, []⟩] (by decide) (by decide) (OKs_nil1 _ _ BI_nil) (fun s hs => by rw [List.mem_singleton.1 hs]; decide)) ?_
  refine Ev.bind (f := fun k t => _) (z 0 [⟨2, []⟩, ⟨2, []⟩] (by decide) (by decide) (fun s hs => by rcases List.mem_cons.1 hs with rfl | hs; exact BI_nil; rw [List.mem_singleton.1 hs]; exact BI_nil) (fun s hs => by rcases List.mem_cons.1 hs with rfl | hs; decide; rw [List.mem_singleton.1 hs]; decide)) ?_
  refine Ev.bind (f := fun k t => _) (z 0 [⟨2, y ++ y⟩, ⟨1, []⟩] (ok3 _) (by simp) (fun s hs => by rcases List.mem_cons.1 hs with rfl | hs; exact hyyB; rw [List.mem_singleton.1 hs]; exact BI_nil) (fun s hs => by rcases List.mem_cons.1 hs with rfl | hs; dsimp only; omega; rw [List.mem_singleton.1 hs]; decide)) ?_
  have B10 := pack_ev 0 [] (by decide) (fun s hs => by cases hs) (fun s hs => by cases hs)
  rw [P10] at B10
  refine Ev.bind (f := fun k t => _) B10 ?_
  refine ev_pos rfl (ev_pos (by dsimp only; omega) (ev_pos rfl (ev_pos rfl (ev_pos rfl (ev_pos rfl (ev_pos rfl (ev_pos rfl (ev_pos rfl (ev_pos rfl (ev_pos rfl ?_))))))))))
  have q (b : List Int) (r : Int × Int) (hB : b.all (fun x => decide (0 ≤ x) && decide (x < 256)) = true) (hl : b.length ≤ 100) (h : sizeI b = r) : Ev (fun k => pack_Size.f k b) r := by
    have := size_ev b (BI_of b hB) (by omega)
    rwa [h] at this
  refine Ev.bind (f := fun k t => _) (q [] (0, 3) (by decide) (by decide) (by decide)) ?_
  refine Ev.bind (f := fun k t => _) (q [72] (0, 4) (by decide) (by decide) (by decide)) ?_
  refine Ev.bind (f := fun k t => _) (q [73, 80, 0, 0, 4] (0, 3) (by decide) (by decide) (by decide)) ?_
  refine Ev.bind (f := fun k t => _) (q [73, 81, 0] (0, 4) (by decide) (by decide) (by decide)) ?_
  refine Ev.bind (f := fun k t => _) (q [73, 80, 1, 0, 4, 0] (0, 5) (by decide) (by decide) (by decide)) ?_
  refine Ev.bind (f := fun k t => _) (q [73, 80, 0, 0, 4, 0] (262144, 0) (by decide) (by decide) (by decide)) ?_
  refine Ev.bind (f := fun k t => _) (q [73, 80, 10, 0, 0, 0] (0, 4) (by decide) (by decide) (by decide)) ?_
  refine ev_pos rfl (ev_pos rfl (ev_pos rfl (ev_pos rfl (ev_pos rfl (ev_pos rfl (ev_pos rfl ?_))))))
  refine Ev.bind (f := fun k t => _) works_ev (ev_pos rfl ?_)
  refine ev_pos (by dsimp only; rw [sealI_length, packB_length]; simp [secs]) (ev_pos rfl ?_)
  have v (l : List Int) (r : Bool) (hB : l.all (fun x => decide (0 ≤ x) && decide (x < 256)) = true) (hl : l.length ≤ 100) (h : isBad l = r) : Ev (fun k => incunablelaw03_wrong.f k l) r := by
    have := wrong_ev l (BI_of l hB) hl
    rwa [h] at this
  refine Ev.bind (f := fun k t => _) (v [1, 0, 0] true (by decide) (by decide) kb0) (ev_pos rfl ?_)
  refine Ev.bind (f := fun k t => _) (v [2, 0, 1, 0] true (by decide) (by decide) kb1) (ev_pos rfl ?_)
  refine Ev.bind (f := fun k t => _) (v [1, 128, 0] true (by decide) (by decide) kb2) (ev_pos rfl ?_)
  refine Ev.bind (f := fun k t => _) (v [1] true (by decide) (by decide) kb3) (ev_pos rfl ?_)
  refine Ev.bind (f := fun k t => _) (v [1, 5, 0] true (by decide) (by decide) kb4) (ev_pos rfl ?_)
  exact Ev.bind (f := fun _ t => some (!t)) (v [1, 0, 2, 1, 9] false (by decide) (by decide) kb5) (Ev.now _)
theorem PackKnown : incunablelaw03_PackKnown.Pure := by
  refine Ev.rounds ?_
  have h : ∀ k, incunablelaw03_PackKnown.f k = (if 262130 ≤ 281474976710656 then ((some (List.replicate 262130 0 : List Int)).bind (known k)) else none) := fun k => rfl
  refine Ev.congr h ?_
  exact ev_pos (by omega) (ev_some rfl (known_ev _ List.length_replicate (fun x hx => by rw [(List.mem_replicate.1 hx).2]; omega)))
end Go.Proofs.Ytpmikaoheaefiaa.Pure
