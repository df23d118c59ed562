/- FrameTurned. -/
import Derived.Test.YtkndghbognhocaaXFrTurn
import Derived.Test.YtkndghbognhocaaXFrWaits
import Derived.Test.YtkndghbognhocaaXx0
import Derived.Test.YtkndghbognhocaaXx6
namespace Go.Proofs.Ytkndghbognhocaa.X
open Go.RowKit Go.Proofs.YtkndghbognhocaaW.PrintWords Go.Proofs.YtkndghbognhocaaW.PrintLast Go.Proofs.YtkndghbognhocaaW.PrintMore Go.Proofs.Ytkndghbognhocaa.Pure
attribute [local go_sem] max2_int min2_int max_two min_two max_three min_three max_four min_four
set_option linter.unusedVariables false
set_option linter.unusedSimpArgs false
def incunablelaw28_FrameTurned.f (k : Nat) (l0 : List Int) (a1 a2 : Int) : Option Bool := if okB l0 = true ∧ (-9223372036854775808 ≤ a1 ∧ a1 < 9223372036854775808) ∧ (0 ≤ a2 ∧ a2 < 4294967296) then some true else none
set_option maxHeartbeats 16000000 in
set_option maxRecDepth 100000 in
theorem incunablelaw28_FrameTurned.calls (k : Nat) (A0 : Option Addr) (c0 : Nat) (l0 : List Int) (a1 a2 : Int) (r : Bool) (w : World) (hr0 : Kd.C (Kd.int .u8) w A0 l0.length l0) (hc0 : l0.length ≤ c0) (h : incunablelaw28_FrameTurned.f k l0 a1 a2 = some r) :
    Calls Try.prog 7 #[.slice A0 l0.length c0, .int .i64 a1, .int .u32 a2] w fun e w' => e = .returned (.bool r) ∧ Below w.heap.size w w' := by
  unfold incunablelaw28_FrameTurned.f at h
  by_cases hok : okB l0 = true ∧ (-9223372036854775808 ≤ a1 ∧ a1 < 9223372036854775808) ∧ (0 ≤ a2 ∧ a2 < 4294967296)
  · rw [if_pos hok] at h
    injection h with h
    subst h
    have hB0 := okB_BI hok.1
    obtain ⟨n, rfl⟩ := Int.eq_ofNat_of_zero_le hok.2.2.1
    have hn32 : n < 4294967296 := by have := hok.2.2.2; omega
    obtain ⟨m, hm⟩ : ∃ m, m = min l0.length 200 := ⟨_, rfl⟩
    have hmin : (if (200 : Int) < (l0.length : Int) then 200 else (l0.length : Int)) = (m : Int) := by split <;> omega
    obtain ⟨hcut, hCt⟩ := CB_to A0 c0 l0 m (by omega) hc0
    have hxl : (l0.take m).length = m := by rw [List.length_take]; omega
    have hxB : BI (l0.take m) := BI_take hB0 m
    have hCx := hCt w hr0
    have hm5 : m ≤ 200 := by omega
    have hmc : m ≤ c0 := by omega
    generalize l0.take m = x at hxl hxB hCx
    have hfl : (frameL x).length = m + 13 := by rw [frameL_length, hxl]
    have hfB := frameL_BI hxB
    obtain ⟨M, hM⟩ : ∃ M, M = m + 13 := ⟨_, rfl⟩
    rw [← hM] at hfl
    obtain ⟨p', hp', hp0, hp1⟩ := bring_some a1 (8 * (M : Int)) hok.2.1.1 hok.2.1.2 (by omega) (by omega)
    obtain ⟨p, rfl⟩ := Int.eq_ofNat_of_zero_le hp0
    have hw8 : IntKind.i64.wrap (8 * (M : Int)) = 8 * (M : Int) := by simp only [i64_w]; unfold wrap64; omega
    have hM0 : ((M : Int) == 0) = false := by rw [beq_eq_false_iff_ne]; omega
    have HM := Aside0.mk hm5
    have HMM := Aside0.mk hM
    have HMC := Aside0.mk hmc
    have HX := Aside0.mk hxl
    have HF := Aside0.mk hfl
    have HP := Aside0.mk hp1
    have HN32 := Aside0.mk hn32
    clear hm hok hm5 hmc hxl hfl hp0 hp1 hCt hM hn32
    go_enter Try.func7, Try.ntmps7
    go_upto_region 7 with (first | (go_at_call 11; refine (Frame_okn x hxB A0 m c0 _ HX.out hCx HMC.out (by have := HM.out; omega)).mono ?_; rintro e w1 ⟨v1, rfl, hR1, hb1⟩; obtain ⟨Af, cf, e1⟩ := Kd.R_slice hR1; rw [HF.out] at e1; subst e1; have hMpos : 0 < (frameL x).length := (by rw [HF.out, HMM.out]; omega); obtain ⟨gf, of_, ef, _⟩ := Kd.R_form hR1 hMpos; have hAf : Af = some ⟨gf, 0, none⟩ := (by injection ef); clear ef; subst hAf) | (go_at_call 19; refine (incunableref00_Bring.calls a1 _ _ _ hp').mono ?_; rintro e w2 ⟨rfl, hd2⟩; have hR2 := Kd.R_below hR1 hd2.below; have hb2 := below_step hb1 hd2.below))
    have HR2 := Aside0.mk hR2
    have HB2 := Aside0.mk hb2
    clear hR1 hb1 hR2 hb2
    go_wp2
    go_loopg [10, 11] 33 (fun kq v10 v11 w' => ∃ (i : Nat), v10 = .bool (decide (n % 2 ^ i ≠ 0)) ∧ v11 = .int .i64 (i : Int) ∧ Aside0 (kq + i = 33) ∧ Aside0 (p + i ≤ 8 * M) ∧ Aside0 (i ≤ 32) ∧
      Aside0 ((Kd.int .u8).R 5 w' w.heap.size (fun _ => True) (.slice (some ⟨gf, 0, none⟩) M cf) (turnL (frameL x) p (n % 2 ^ i))) ∧ Aside0 (Below w.heap.size w w'))
    case atStart => exact ⟨0, (by simp [Nat.mod_one]), rfl, ⟨rfl⟩, ⟨by have := HP.out; omega⟩, ⟨by omega⟩, ⟨by rw [Nat.pow_zero, Nat.mod_one, turnL_zero hfB]; exact HR2.out⟩, HB2⟩
    case round =>
      obtain ⟨i, rfl, rfl, hk, hpi, hi32, hR, hB⟩ := hrel
      clear HR2 HB2
      have hkk := hk.out
      have hpp := HP.out
      have hMM := HMM.out
      have hm2 := HM.out
      have HTL := Aside0.mk (show (turnL (frameL x) p (n % 2 ^ i)).length = M from by rw [turnL_length, HF.out])
      have hwpi : IntKind.i64.wrap ((p : Int) + (i : Int)) = (p : Int) + (i : Int) := by simp only [i64_w]; unfold wrap64; omega
      have hwi : IntKind.i64.wrap ((i : Int) + 1) = (i : Int) + 1 := by simp only [i64_w]; unfold wrap64; omega
      clear hpp hMM hm2
      by_cases hc : i < 32 ∧ p + i < 8 * M
      · have d1' : decide ((i : Int) < 32) = true := decide_eq_true (by omega)
        have d2' : decide ((p : Int) + (i : Int) < 8 * (M : Int)) = true := decide_eq_true (by omega)
        have hb := bit_of n i HN32.out hc.1
        have hx0 : (0 : Int) ≤ (i : Int) := by omega
        have HJ : Int.tdiv ((p : Int) + (i : Int)) 8 = (((p + i) / 8 : Nat) : Int) := by rw [Int.tdiv_eq_ediv_of_nonneg (by omega)]; omega
        have HK : Int.tmod ((p : Int) + (i : Int)) 8 = (((p + i) % 8 : Nat) : Int) := by rw [Int.tmod_eq_emod_of_nonneg (by omega)]; omega
        have hsh := shl_u8 ((p + i) % 8) (by omega)
        have hset := turn_set (frameL x) hfB n p i (by rw [HF.out]; omega)
        have HC := Aside0.mk hc
        have hJM : (((p + i) / 8 : Nat) : Int) < (M : Int) := by omega
        have hJ0 : (0 : Int) ≤ (((p + i) / 8 : Nat) : Int) := by omega
        have hK0 : (0 : Int) ≤ (((p + i) % 8 : Nat) : Int) := by omega
        have hK8 : (((p + i) % 8 : Nat) : Int) ≤ 8 := by omega
        have hx32 : (i : Int) ≤ 32 := by omega
        have hJw' : IntKind.i64.wrap (((p + i) / 8 : Nat) : Int) = (((p + i) / 8 : Nat) : Int) := by have := HMM.out; have := HM.out; simp only [i64_w]; unfold wrap64; omega
        have hrelT := turn_some n i
        have hrelK := turn_keep n i
        have HTr : n / 2 ^ i % 2 = 1 → (decide (n % 2 ^ (i + 1) ≠ 0)) = true := fun h => decide_eq_true (hrelT h)
        have hbit : n / 2 ^ i % 2 = 1 ∨ ¬ n / 2 ^ i % 2 = 1 := Classical.em _
        obtain ⟨ti, hti⟩ : ∃ ti, ti = decide (n % 2 ^ i ≠ 0) := ⟨_, rfl⟩
        have HTI := Aside0.mk hti
        have hset' : n / 2 ^ i % 2 = 1 → (turnL (frameL x) p (n % 2 ^ i)).set ((((p + i) / 8 : Nat) : Int)).toNat (Go.bits .xor .u8 (rd (turnL (frameL x) p (n % 2 ^ i)) (((p + i) / 8 : Nat) : Int)) ((2 ^ ((p + i) % 8) : Nat) : Int)) = turnL (frameL x) p (n % 2 ^ (i + 1)) := fun h => by rw [Int.toNat_natCast]; exact hset h
        generalize hS : turnL (frameL x) p (n % 2 ^ i) = T at hR HTL hset'
        obtain ⟨sz, hsz⟩ : ∃ sz : Int, sz = ((2 ^ ((p + i) % 8) : Nat) : Int) := ⟨_, rfl⟩
        rw [← hsz] at hsh hset'
        obtain ⟨J, hJ⟩ : ∃ J : Int, J = (((p + i) / 8 : Nat) : Int) := ⟨_, rfl⟩
        rw [← hJ] at HJ hset' hJM hJ0 hJw'
        obtain ⟨K, hK⟩ : ∃ K : Int, K = (((p + i) % 8 : Nat) : Int) := ⟨_, rfl⟩
        rw [← hK] at HK hsh hK0 hK8
        obtain ⟨xi, hxi⟩ : ∃ xi : Int, xi = (i : Int) := ⟨_, rfl⟩
        obtain ⟨pz, hpz⟩ : ∃ pz : Int, pz = (p : Int) := ⟨_, rfl⟩
        have HXI := Aside0.mk hxi
        have HPZ := Aside0.mk hpz
        rw [← hxi] at HJ HK hx0 d1' d2' hb hwpi hwi hx32
        rw [← hpz] at HJ HK d2' hwpi
        rw [← hxi, ← hpz, ← hti]
        obtain ⟨y, hy⟩ : ∃ y : Int, shr .u32 (n : Int) xi = y := ⟨_, rfl⟩
        rw [hy] at hb
        have hy_ : ((n : Int) / 2 ^ min xi.toNat 32) = y := hy
        have hyz : xi ≤ 32 → ((n : Int) / 2 ^ xi.toNat) = y := shr_small hy
        have hs_ : (IntKind.u8.wrap (1 * 2 ^ min K.toNat 8)) = sz := hsh
        have hsz2 : K ≤ 8 → (IntKind.u8.wrap (1 * 2 ^ K.toNat)) = sz := shl_small hsh
        clear hxi hpz hti hsz hJ hK hc hy hsh hset
        have px := eq_true hx0
        have pk := eq_true hK0
        have d3 : decide (0 ≤ xi) = true := decide_eq_true hx0
        have d4 : decide (0 ≤ K) = true := decide_eq_true hK0
        rcases hbit with h1 | h1
        · have hb1 : (Go.bits .and .u32 y 1 == 1) = true := by rw [hb, h1]; rfl
          clear hb
          have hxc : wr.drew.cell? ⟨gf, J.toNat, none⟩ = some (.int .u8 (rd T J)) := (Kd.R_celln (0 : Int) (Kd.R_drew hR.out) J hJ0 hJM).1
          have hfc := (Kd.R_celln (0 : Int) (Kd.R_drew hR.out) J hJ0 hJM).2
          have pJ := eq_true hJ0
          have qJ := eq_true hJM
          go_wp2
          refine start_ (n := 20) (S := fun w' => w'.cell? ⟨gf, J.toNat, none⟩ = some (.int .u8 (rd T J))) (ds := [19]) #[false, false, false, false, false, false, false, false, false, false, false, false, false, false, false, false, false, false, false, false] (by kernel_rfl) rfl rfl (hxc) (fun hHeld => ?_)
          generalize HW : wr.drew = w5 at hHeld hfc ⊢
          have hR5 : (Kd.int .u8).R 5 w5 w.heap.size (fun _ => True) (.slice (some ⟨gf, 0, none⟩) M cf) T := by rw [← HW]; exact Kd.R_drew hR.out
          have hB5 : Below w.heap.size w w5 := by rw [← HW]; exact below_drew1 hB.out
          clear hxc
          refine pure_ (i := 0) (N := some 55) (v := ?_) (a' := ?_) #[true, false, false, false, false, false, false, false, false, false, false, false, false, false, false, false, false, false, false, false] rfl rfl (by kernel_rfl) (fun _ _ _ h => h) (Or.inl ⟨by rfl, ?_⟩) ?_ ?_
          rotate_left
          · intro w'
            go_simp
            with_reducible rfl
          rotate_left
          · simp only [Act.put, List.setIfInBounds_toArray, List.set_cons_zero, List.set_cons_succ, i64_w, i32_w]
            rfl
          refine pure_ (i := 1) (N := some 56) (v := ?_) (a' := ?_) #[true, true, false, false, false, false, false, false, false, false, false, false, false, false, false, false, false, false, false, false] rfl rfl (by kernel_rfl) (fun _ _ _ h => h) (Or.inl ⟨by rfl, ?_⟩) ?_ ?_
          rotate_left
          · intro w'
            go_simp
            with_reducible rfl
          rotate_left
          · simp only [Act.put, List.setIfInBounds_toArray, List.set_cons_zero, List.set_cons_succ, i64_w, i32_w]
            rfl
          refine pure_ (i := 2) (N := some 57) (v := ?_) (a' := ?_) #[true, true, true, false, false, false, false, false, false, false, false, false, false, false, false, false, false, false, false, false] rfl rfl (by kernel_rfl) (fun _ _ _ h => h) (Or.inl ⟨by rfl, ?_⟩) ?_ ?_
          rotate_left
          · intro w'
            go_simp
            with_reducible rfl
          rotate_left
          · simp only [Act.put, List.setIfInBounds_toArray, List.set_cons_zero, List.set_cons_succ, i64_w, i32_w]
            rfl
          refine pure_ (i := 3) (N := some 58) (v := ?_) (a' := ?_) #[true, true, true, true, false, false, false, false, false, false, false, false, false, false, false, false, false, false, false, false] rfl rfl (by kernel_rfl) (fun _ _ _ h => h) (Or.inl ⟨by rfl, ?_⟩) ?_ ?_
          rotate_left
          · intro w'
            go_simp
            with_reducible rfl
          rotate_left
          · simp only [Act.put, List.setIfInBounds_toArray, List.set_cons_zero, List.set_cons_succ, i64_w, i32_w]
            rfl
          refine pure_ (i := 4) (N := some 59) (v := ?_) (a' := ?_) #[true, true, true, true, true, false, false, false, false, false, false, false, false, false, false, false, false, false, false, false] rfl rfl (by kernel_rfl) (fun _ _ _ h => h) (Or.inl ⟨by rfl, ?_⟩) ?_ ?_
          rotate_left
          · intro w'
            go_simp
            with_reducible rfl
          rotate_left
          · simp only [Act.put, List.setIfInBounds_toArray, List.set_cons_zero, List.set_cons_succ, i64_w, i32_w]
            rfl
          refine pure_ (i := 5) (N := some 60) (v := ?_) (a' := ?_) #[true, true, true, true, true, true, false, false, false, false, false, false, false, false, false, false, false, false, false, false] rfl rfl (by kernel_rfl) (fun _ _ _ h => h) (Or.inl ⟨by rfl, ?_⟩) ?_ ?_
          rotate_left
          · intro w'
            go_simp
            with_reducible rfl
          rotate_left
          · simp only [Act.put, List.setIfInBounds_toArray, List.set_cons_zero, List.set_cons_succ, i64_w, i32_w]
            rfl
          refine pure_ (i := 6) (N := some 61) (v := ?_) (a' := ?_) #[true, true, true, true, true, true, true, false, false, false, false, false, false, false, false, false, false, false, false, false] rfl rfl (by kernel_rfl) (fun _ _ _ h => h) (Or.inl ⟨by rfl, ?_⟩) ?_ ?_
          rotate_left
          · intro w'
            go_simp
            with_reducible rfl
          rotate_left
          · simp only [Act.put, List.setIfInBounds_toArray, List.set_cons_zero, List.set_cons_succ, i64_w, i32_w]
            rfl
          refine pure_ (i := 7) (N := some 62) (v := ?_) (a' := ?_) #[true, true, true, true, true, true, true, true, false, false, false, false, false, false, false, false, false, false, false, false] rfl rfl (by kernel_rfl) (fun _ _ _ h => h) (Or.inl ⟨by rfl, ?_⟩) ?_ ?_
          rotate_left
          · intro w'
            go_simp
            with_reducible rfl
          rotate_left
          · simp only [Act.put, List.setIfInBounds_toArray, List.set_cons_zero, List.set_cons_succ, i64_w, i32_w]
            rfl
          refine pure_ (i := 8) (N := some 63) (v := ?_) (a' := ?_) #[true, true, true, true, true, true, true, true, true, false, false, false, false, false, false, false, false, false, false, false] rfl rfl (by kernel_rfl) (fun _ _ _ h => h) (Or.inl ⟨by rfl, ?_⟩) ?_ ?_
          rotate_left
          · intro w'
            go_simp
            with_reducible rfl
          rotate_left
          · simp only [Act.put, List.setIfInBounds_toArray, List.set_cons_zero, List.set_cons_succ, i64_w, i32_w]
            rfl
          refine pure_ (i := 9) (N := some 64) (v := ?_) (a' := ?_) #[true, true, true, true, true, true, true, true, true, true, false, false, false, false, false, false, false, false, false, false] rfl rfl (by kernel_rfl) (fun _ _ _ h => h) (Or.inl ⟨by rfl, ?_⟩) ?_ ?_
          rotate_left
          · intro w'
            go_simp
            with_reducible rfl
          rotate_left
          · simp only [Act.put, List.setIfInBounds_toArray, List.set_cons_zero, List.set_cons_succ, i64_w, i32_w]
            rfl
          refine pure_ (i := 10) (N := some 65) (v := ?_) (a' := ?_) #[true, true, true, true, true, true, true, true, true, true, true, false, false, false, false, false, false, false, false, false] rfl rfl (by kernel_rfl) (fun _ _ _ h => h) (Or.inl ⟨by rfl, ?_⟩) ?_ ?_
          rotate_left
          · intro w'
            go_simp
            with_reducible rfl
          rotate_left
          · simp only [Act.put, List.setIfInBounds_toArray, List.set_cons_zero, List.set_cons_succ, i64_w, i32_w]
            rfl
          refine pure_ (i := 12) (N := some 67) (v := ?_) (a' := ?_) #[true, true, true, true, true, true, true, true, true, true, true, false, true, false, false, false, false, false, false, false] rfl rfl (by kernel_rfl) (fun _ _ _ h => h) (Or.inl ⟨by rfl, ?_⟩) ?_ ?_
          rotate_left
          · intro w'
            go_simp
            with_reducible rfl
          rotate_left
          · simp only [Act.put, List.setIfInBounds_toArray, List.set_cons_zero, List.set_cons_succ, i64_w, i32_w]
            rfl
          refine pure_ (i := 13) (N := some 68) (v := ?_) (a' := ?_) #[true, true, true, true, true, true, true, true, true, true, true, false, true, true, false, false, false, false, false, false] rfl rfl (by kernel_rfl) (fun _ _ _ h => h) (Or.inl ⟨by rfl, ?_⟩) ?_ ?_
          rotate_left
          · intro w'
            go_simp
            with_reducible rfl
          rotate_left
          · simp only [Act.put, List.setIfInBounds_toArray, List.set_cons_zero, List.set_cons_succ, i64_w, i32_w]
            rfl
          refine pure_ (i := 14) (N := some 69) (v := ?_) (a' := ?_) #[true, true, true, true, true, true, true, true, true, true, true, false, true, true, true, false, false, false, false, false] rfl rfl (by kernel_rfl) (fun _ _ _ h => h) (Or.inl ⟨by rfl, ?_⟩) ?_ ?_
          rotate_left
          · intro w'
            go_simp
            with_reducible rfl
          rotate_left
          · simp only [Act.put, List.setIfInBounds_toArray, List.set_cons_zero, List.set_cons_succ, i64_w, i32_w]
            rfl
          refine pure_ (i := 15) (N := some 70) (v := ?_) (a' := ?_) #[true, true, true, true, true, true, true, true, true, true, true, false, true, true, true, true, false, false, false, false] rfl rfl (by kernel_rfl) (fun _ _ _ h => h) (Or.inl ⟨by rfl, ?_⟩) ?_ ?_
          rotate_left
          · intro w'
            go_simp
            with_reducible rfl
          rotate_left
          · simp only [Act.put, List.setIfInBounds_toArray, List.set_cons_zero, List.set_cons_succ, i64_w, i32_w]
            rfl
          refine pure_ (i := 16) (N := some 71) (v := ?_) (a' := ?_) #[true, true, true, true, true, true, true, true, true, true, true, false, true, true, true, true, true, false, false, false] rfl rfl (by kernel_rfl) (fun _ _ _ h => h) (Or.inl ⟨by rfl, ?_⟩) ?_ ?_
          rotate_left
          · intro w'
            go_simp
            with_reducible rfl
          rotate_left
          · simp only [Act.put, List.setIfInBounds_toArray, List.set_cons_zero, List.set_cons_succ, i64_w, i32_w]
            rfl
          refine take_ (i := 11) (N := some 66) (v := ?_) (a' := ?_) #[true, true, true, true, true, true, true, true, true, true, true, true, true, true, true, true, true, false, false, false] rfl rfl (by kernel_rfl) (fun _ _ _ h => h) (Or.inl ⟨by rfl, ?_⟩) hHeld ?_ ?_
          rotate_left
          · intro w' s0
            go_simp
            with_reducible rfl
          rotate_left
          · simp only [Act.put, List.setIfInBounds_toArray, List.set_cons_zero, List.set_cons_succ, i64_w, i32_w]
            rfl
          refine pure_ (i := 17) (N := some 72) (v := ?_) (a' := ?_) #[true, true, true, true, true, true, true, true, true, true, true, true, true, true, true, true, true, true, false, false] rfl rfl (by kernel_rfl) (fun _ _ _ h => h) (Or.inl ⟨by rfl, ?_⟩) ?_ ?_
          rotate_left
          · intro w'
            go_simp
            with_reducible rfl
          rotate_left
          · simp only [Act.put, List.setIfInBounds_toArray, List.set_cons_zero, List.set_cons_succ, i64_w, i32_w]
            rfl
          refine pure_ (i := 18) (N := some 73) (v := ?_) (a' := ?_) #[true, true, true, true, true, true, true, true, true, true, true, true, true, true, true, true, true, true, true, false] rfl rfl (by kernel_rfl) (fun _ _ _ h => h) (Or.inl ⟨by rfl, ?_⟩) ?_ ?_
          rotate_left
          · intro w'
            go_simp
            with_reducible rfl
          rotate_left
          · simp only [Act.put, List.setIfInBounds_toArray, List.set_cons_zero, List.set_cons_succ, i64_w, i32_w]
            rfl
          refine last_ (i := 19) (N := none) #[true, true, true, true, true, true, true, true, true, true, true, true, true, true, true, true, true, true, true, true] rfl rfl (by kernel_rfl) (by decide) (fun K hK => ?_)
          refine skip_ (w1 := ?_) (by rfl) rfl ?_ ?_
          rotate_left
          · (go_simp; rfl)
          refine hK.out _ _ ?_
          clear hK K
          refine done_ (by kernel_rfl) ?_
          go_wp2
          have hP := Kd.R_putn hR5 J (Go.bits .xor .u8 (rd T J) sz)
          rw [hset' h1] at hP
          have e8 : (2 ^ K.toNat % 256 : Int) = sz := by have h8 := hsz2 hK8; rw [IntKind.wrap_u8, Int.one_mul] at h8; exact h8
          rw [← e8] at hP
          obtain rfl := HPZ.out
          obtain rfl := HXI.out
          go_roundg (gk - 1)
          case measure => omega
          case rel => exact ⟨i + 1, by rw [HTr h1], rfl, ⟨by omega⟩, ⟨by have := HC.out.2; omega⟩, ⟨by have := HC.out.1; omega⟩, ⟨hP⟩, ⟨hB5.setCell (Kd.R_base hR5 gf (by simp [Value.ownBlock])) _⟩⟩
        · have hb1 : (Go.bits .and .u32 y 1 == 1) = false := by rw [hb, beq_eq_false_iff_ne]; omega
          clear hb
          go_wp2
          obtain rfl := HPZ.out
          obtain rfl := HXI.out
          go_roundg (gk - 1)
          case measure => omega
          case rel => exact ⟨i + 1, by rw [hrelK h1, HTI.out], rfl, ⟨by omega⟩, ⟨by have := HC.out.2; omega⟩, ⟨by have := HC.out.1; omega⟩, ⟨by rw [hrelK h1, hS]; exact hR.out⟩, hB⟩
      · have d12 : (decide ((i : Int) < 32) = true ∧ decide ((p : Int) + (i : Int) < 8 * (M : Int)) = false) ∨ decide ((i : Int) < 32) = false := by
          by_cases h1 : i < 32
          · exact .inl ⟨decide_eq_true (by omega), decide_eq_false (fun h2 => hc ⟨h1, by omega⟩)⟩
          · exact .inr (decide_eq_false (by omega))
        have hTB := turnL_BI hfB p (n % 2 ^ i)
        have h32 : n % 2 ^ i < 4294967296 := Nat.lt_of_lt_of_le (Nat.mod_lt _ (Nat.two_pow_pos i)) (show 2 ^ i ≤ 2 ^ 32 from Nat.pow_le_pow_right (by omega) hi32.out)
        have hlay := lay_lt n i (p % 8) (frameL x).length (p / 8) (by rw [HF.out]; have := hpi.out; have := HP.out; omega)
        have hall := turned_all x hxB (by have := HX.out; have := HM.out; omega) p (n % 2 ^ i) (by rw [HF.out]; have := HP.out; omega) h32 hlay
        have hsame : n % 2 ^ i = 0 → turnL (frameL x) p (n % 2 ^ i) = frameL x := fun h => by rw [h, turnL_zero hfB]
        have hone : allI 1000 (frameL x) false = ([⟨x, true, 0⟩], [], false) := by
          have h1 := all_frame 999 x [] false (by have := HX.out; have := HM.out; omega)
          rw [List.append_nil, all_nil] at h1
          exact h1
        have s0 := ((Sep.nil w).below hB.out).add (tB w.heap.size (.slice (some ⟨gf, 0, none⟩) M cf) (turnL (frameL x) p (n % 2 ^ i))) (show (Kd.int .u8).R 5 wr w.heap.size (fun k => w.heap.size ≤ k ∧ k < wr.heap.size) _ _ from Kd.R_mono (Kd.R_bound hR.out) (fun k hk => ⟨hk.2.1, hk.2.2.1⟩))
        have hB0 := hB.out
        have hcM := (RC hR.out).2.2
        obtain ⟨ti, hti⟩ : ∃ ti, ti = decide (n % 2 ^ i ≠ 0) := ⟨_, rfl⟩
        rw [← hti]
        have HTI := Aside0.mk hti
        have HH := Aside0.mk hcM
        have HML := Aside0.mk (show (turnL (frameL x) p (n % 2 ^ i)).length ≤ 1000 from by rw [HTL.out]; have := HMM.out; have := HM.out; omega)
        clear hti hlay h32 hc hcM
        generalize turnL (frameL x) p (n % 2 ^ i) = T at hTB hall hsame HTL HML s0 hR
        have HA := Aside0.mk hall
        have HSA := Aside0.mk hsame
        have HON := Aside0.mk hone
        clear hall hsame hone
        rcases d12 with ⟨d1, d2⟩ | d1
        all_goals
          cases ti
          · have hz : n % 2 ^ i = 0 := by have h5 := HTI.out; by_cases h6 : n % 2 ^ i = 0; exact h6; rw [decide_eq_true h6] at h5; cases h5
            have hTf := HSA.out hz
            have HON' := Aside0.mk (show allI 1000 ([] ++ T) false = ([⟨x, true, 0⟩], [], false) from by rw [hTf, List.nil_append]; exact HON.out)
            clear hTf hz
            go_upto_region 18 with (first | (go_at_call 15; refine (New_rf _).mono ?_; rintro e w1 ⟨g, rfl, hr1, hb1⟩; have s1 := s0.new (base := w.heap.size) hB0.size hr1 hb1; have hB1 := below_step hB0 hb1; clear hr1) | (go_at_call 17; refine (Sep.feed (w := w) s1 1 g [] false rfl hB1 T (by have := HML.out; simp only [List.length_nil]; omega) (some ⟨gf, 0, none⟩) M cf HTL.out (s1.bytes 0 rfl).2.1 HH.out).mono ?_; rintro e w2 ⟨rfl, s2, hB2, _⟩; clear s1) | (go_at_call 23; refine (Sep.all (w := w) s2 1 g _ false rfl hB2 (BI_append BI_nil hTB) (by rw [List.nil_append]; have := HML.out; omega) _ HON'.out).mono ?_; rintro e w3 ⟨v3, rfl, ⟨A3, c3, rfl⟩, s3, hB3, _⟩; clear s2))
            have hh := s3.heard 2 rfl
            obtain ⟨ad3, A30, c30, e3, hx0, hx1, hx2, hl0, hi0⟩ := at_T49 hh.2.1 0 (by decide) (by simp)
            cases e3
            have hx0' : w3.cell? ad3 = some (.slice A30 x.length c30) := hx0
            have hx1' : w3.cell? ⟨ad3.block, ad3.off + 1, none⟩ = some (.bool true) := hx1
            go_wp2_with (first | (go_at_call 13; refine (eq_n x x A30 A0 _ c30 m c0 _ rfl (by have := HX.out; have := HM.out; omega) hi0 hl0 HX.out (Kd.C_belowB hCx hB3 rfl) HMC.out).mono ?_; rintro e w8 ⟨he, hb8⟩; rw [decide_eq_true rfl] at he; subst he; have hB8 := below_step hB3 hb8) | (go_at_call 14; refine (awake_calls _).mono ?_; rintro e w9 ⟨rfl, hb9⟩; have hB9 := below_step hB8 hb9))
            go_ret
            exact ⟨rfl, hB9⟩
          · have hz : n % 2 ^ i ≠ 0 := fun h6 => by have h5 := HTI.out; rw [decide_eq_false (fun h7 => h7 h6)] at h5; cases h5
            obtain ⟨A8, c8, hcutD, hCD, hc8⟩ := CBn_from (some ⟨gf, 0, none⟩) cf T M 1 HTL.out (by have := HMM.out; omega) HH.out
            have hcutD' : ∀ W, (Instr.slice 22 (.slice (some ⟨gf, 0, none⟩) M cf) (some (.int .i64 1)) none none).run Try.prog W = .ok (.slice A8 (M - 1) c8) W := hcutD
            have hdl : (T.drop 1).length = M - 1 := by rw [List.length_drop, HTL.out]
            have HDL := Aside0.mk hdl
            have HC8 := Aside0.mk hc8
            have HCD := Aside0.mk hCD
            clear hdl hc8 hCD
            obtain ⟨Q, hQ⟩ : ∃ Q, allI 1000 ([] ++ T) false = Q := ⟨_, rfl⟩
            have hQ2 : within (T.drop 1) = false → ∃ o, Q.1 = [o] ∧ o.f1 = false := fun h7 => by
              rw [List.nil_append] at hQ
              rcases HA.out hz (within_no h7) with h8 | h8
              · rw [← hQ, h8]; exact ⟨_, rfl, rfl⟩
              · rw [← hQ, h8]; exact ⟨_, rfl, rfl⟩
            have HQ := Aside0.mk hQ
            clear hQ hz
            go_upto_region 19 with (first | (go_at_call 15; refine (New_rf _).mono ?_; rintro e w1 ⟨g, rfl, hr1, hb1⟩; have s1 := s0.new (base := w.heap.size) hB0.size hr1 hb1; have hB1 := below_step hB0 hb1; clear hr1) | (go_at_call 17; refine (Sep.feed (w := w) s1 1 g [] false rfl hB1 T (by have := HML.out; simp only [List.length_nil]; omega) (some ⟨gf, 0, none⟩) M cf HTL.out (s1.bytes 0 rfl).2.1 HH.out).mono ?_; rintro e w2 ⟨rfl, s2, hB2, _⟩; clear s1) | (go_at_call 23; refine (Sep.all (w := w) s2 1 g _ false rfl hB2 (BI_append BI_nil hTB) (by rw [List.nil_append]; have := HML.out; omega) Q HQ.out).mono ?_; rintro e w3 ⟨v3, rfl, ⟨A3, c3, rfl⟩, s3, hB3, _⟩; clear s2))
            have HQ2 := Aside0.mk hQ2
            clear hQ2
            obtain ⟨wi, hwi'⟩ : ∃ wi, wi = within (T.drop 1) := ⟨_, rfl⟩
            have HWI := Aside0.mk hwi'
            clear hwi'
            cases wi
            · obtain ⟨o, ho, ho1⟩ := HQ2.out HWI.out.symm
              have hh := s3.heard 2 rfl
              have hQl : (Q.1.length : Int) = 1 := by rw [ho]; rfl
              have HHE := Aside0.mk (show CN w3 A3 1 [o] from by have h9 := hh.2.1; rw [ho] at h9; exact h9)
              clear hh
              go_upto_region 21 with (first | (go_at_call 25; refine (within_n (T.drop 1) A8 _ c8 _ HDL.out (by have := HMM.out; have := HM.out; omega) (HCD.out _ (s3.bytes 0 rfl).2.1) HC8.out).mono ?_; rintro e w4 ⟨he, hb4⟩; rw [← HWI.out] at he; subst he; have hB4 := below_step hB3 hb4; have HC4 := Aside0.mk (Kd.C_below HHE.out hb4)))
              have HB4 := Aside0.mk hB4
              clear hB4 s3
              go_wp2
              go_loopg [14] 2 (fun kq v14 w' => ∃ j : Int, v14 = .int .i64 j ∧ Aside0 (0 ≤ j) ∧ Aside0 ((kq : Int) + j = 2) ∧ Aside0 (CN w' A3 1 [o]) ∧ Aside0 (Below w.heap.size w w'))
              case atStart => exact ⟨0, rfl, ⟨by decide⟩, ⟨by decide⟩, HC4, HB4⟩
              case round =>
                obtain ⟨j, rfl, hj0, hjk, hCo, hBo⟩ := hrel
                have hjk' := hjk.out
                have hj0' := hj0.out
                by_cases hj : j < 1
                · obtain rfl : j = 0 := by omega
                  obtain ⟨ad3, A30, c30, e3, hx0, hx1, hx2, hl0, hi0⟩ := at_T49 hCo.out 0 (by decide) (by simp)
                  cases e3
                  have hx1' : wr.cell? ⟨ad3.block, ad3.off + 1, none⟩ = some (.bool o.f1) := hx1
                  rw [ho1] at hx1'
                  go_wp2
                  go_roundg (gk - 1)
                  case measure => omega
                  case rel => exact ⟨1, rfl, ⟨by decide⟩, ⟨by omega⟩, hCo, hBo⟩
                · have dj : decide (j < 1) = false := decide_eq_false hj
                  have hBo' := hBo.out
                  go_wp2_with (first | (go_at_call 14; refine (awake_calls _).mono ?_; rintro e w9 ⟨rfl, hb9⟩; have hB9 := below_step hBo' hb9))
                  go_ret
                  exact ⟨rfl, hB9⟩
            · go_wp2_with (first | (go_at_call 25; refine (within_n (T.drop 1) A8 _ c8 _ HDL.out (by have := HMM.out; have := HM.out; omega) (HCD.out _ (s3.bytes 0 rfl).2.1) HC8.out).mono ?_; rintro e w4 ⟨he, hb4⟩; rw [← HWI.out] at he; subst he; have hB4 := below_step hB3 hb4) | (go_at_call 14; refine (awake_calls _).mono ?_; rintro e w9 ⟨rfl, hb9⟩; have hB9 := below_step hB4 hb9))
              go_ret
              exact ⟨rfl, hB9⟩
  · rw [if_neg hok] at h
    cases h
end Go.Proofs.Ytkndghbognhocaa.X
