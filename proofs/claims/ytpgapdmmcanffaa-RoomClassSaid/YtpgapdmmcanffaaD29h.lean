/- Laws 'RoomNumbers' and 'RoomClass'. -/
import Derived.Test.YtpgapdmmcanffaaD29g
namespace Go.Rx
open Go.Proofs

theorem e_mul9 {a b : Int} {m n : Int} (h0 : 0 ≤ a) (h1 : a ≤ m) (h2 : 0 ≤ b) (h3 : b ≤ n) : 0 ≤ a * b ∧ a * b ≤ m * n :=
  ⟨Int.mul_nonneg h0 h2, Int.mul_le_mul h1 h3 h2 (Int.le_trans h0 h1)⟩
theorem not_beq_same {a b : Bool} (h : a = b) : (!a == b) = false := by subst h; cases a <;> rfl
theorem beq_same {a b : Bool} (h : a = b) : (a == b) = true := by subst h; cases a <;> rfl

attribute [local irreducible] Loop ex exF contK roundK retK at_ bodyOf mkEnv mkA
set_option maxRecDepth 100000

theorem numbers_law : SpecOK Try.prog elTT 8 (lawS [.el 14, .el 10, .el 0, .el 0]) := by
  refine spec_of_exF (cfg := cfgA 8 sig29f noU9) (cfg_ok rfl rfl rfl) sig29f_ok (fn := Try.f8) (by kernel_rfl) (by kernel_rfl) (by kernel_rfl) ?_
  intro args H K h
  obtain ⟨ha, hk⟩ := h
  obtain ⟨xs, rfl, rfl, hn, hm⟩ := args_room ha
  clear ha
  refine Eq.mpr (nf8 xs K) ⟨trivial, ?_⟩
  intro y0 y1 y2 y3 y4 y5 y6 y7 y8 y9 y10 e0 e1 e2 e3 e4 e5 e6 e7 e8 e9 e10
  have R : Right [y0, y1, y2, y3, y4, y5, y6, y7, y8, y9, y10] := by
    rw [e0, e1, e2, e3, e4, e5, e6, e7, e8, e9, e10]
    exact some_right _
  clear e0 e1 e2 e3 e4 e5 e6 e7 e8 e9 e10
  refine ⟨?_, fun hr => ?_⟩
  · intro _ y11 e11
    subst e11
    have r2 : 1 ≤ y2 ∧ y2 ≤ 256 := R.h2
    generalize List.getD xs 18 0 = n at *
    generalize List.getD xs 19 0 = m at *
    obtain ⟨l1, l2⟩ := least_eq n m hn.2
    exact ⟨trivial, fun y12 y13 e12 e13 => ⟨trivial, fun y14 y15 e14 e15 => br_false (bne_false' ((e12.trans l1).trans e14.symm)) (br_false (bne_false' ((e13.trans l2).trans e15.symm))
      ⟨trivial, fun y16 e16 => br_intro (fun _ => ⟨trivial, hk _⟩) (fun _ => br_intro (fun _ => ⟨trivial, hk _⟩) (fun _ =>
        ⟨trivial, fun y17 e17 => ⟨trivial, fun y18 e18 => br_true (beq_true' ((e17.trans (e54_0 _ _ _ _ _ _ _)).trans e18.symm))
          ⟨trivial, fun y19 e19 => ⟨trivial, fun y20 e20 => br_true (beq_same ((e19.trans (e56_0 _ _ _ _ _ _ _ n m hn.2)).trans e20.symm))
            ⟨trivial, fun y21 e21 => ⟨trivial, fun y22 e22 => br_true (beq_true' ((e21.trans (e58_0 _ _ _ _ _ _ _)).trans e22.symm)) ⟨trivial, hk _⟩⟩⟩⟩⟩⟩⟩))⟩)⟩⟩
  · rw [right_iff.2 R] at hr
    cases hr

theorem class_law : SpecOK Try.prog elTT 9 (lawS [.el 14, .el 10, .el 0, .el 0]) := by
  refine spec_of_exF (cfg := cfgA 9 sig29f noU9) (cfg_ok rfl rfl rfl) sig29f_ok (fn := Try.f9) (by kernel_rfl) (by kernel_rfl) (by kernel_rfl) ?_
  intro args H K h
  obtain ⟨ha, hk⟩ := h
  obtain ⟨xs, rfl, rfl, hn, hm⟩ := args_room ha
  clear ha
  refine Eq.mpr (nf9 xs K) ⟨trivial, ?_⟩
  intro y0 y1 y2 y3 y4 y5 y6 y7 y8 y9 y10 e0 e1 e2 e3 e4 e5 e6 e7 e8 e9 e10
  have R : Right [y0, y1, y2, y3, y4, y5, y6, y7, y8, y9, y10] := by
    rw [e0, e1, e2, e3, e4, e5, e6, e7, e8, e9, e10]
    exact some_right _
  clear e0 e1 e2 e3 e4 e5 e6 e7 e8 e9 e10
  refine ⟨?_, fun hr => ?_⟩
  · intro _ y11 e11
    subst e11
    have r2 : 1 ≤ y2 ∧ y2 ≤ 256 := R.h2
    generalize List.getD xs 18 0 = n at *
    generalize List.getD xs 19 0 = m at *
    generalize List.getD xs 11 0 = s0
    generalize List.getD xs 12 0 = s1
    generalize List.getD xs 13 0 = s2
    generalize List.getD xs 14 0 = s3
    generalize List.getD xs 15 0 = s4
    generalize List.getD xs 16 0 = s5
    generalize List.getD xs 17 0 = s6
    refine ⟨trivial, fun y12 e12 => br_intro (fun _ => ⟨trivial, hk _⟩) (fun h12 => br_intro (fun _ => ⟨trivial, hk _⟩) (fun hu => ?_))⟩
    have hst : v52_0 [s0, s1, s2, s3, s4, s5, s6] = true := by
      rw [← e12]
      simpa using h12
    obtain ⟨t2, t3, t6, t6', t2', t3', t4⟩ := stats_of hst
    have hu' : s6 ≤ y2 := by simpa using hu
    have hop := open_val (s0 := s0) (s1 := s1) (s2 := s2) (s3 := s3) (s4 := s4) (s5 := s5) (s6 := s6) R t6 t6'
    have hop' : v55_0 [y0, y1, y2, y3, y4, y5, y6, y7, y8, y9, y10, s0, s1, s2, s3, s4, s5, s6] = y2 - s6 := by
      refine hop.trans ?_
      show max 0 (y2 - s6) = y2 - s6
      omega
    -- a small block
    obtain ⟨q, hq, q0, q1⟩ := modu (x := n) (n := 17) (by omega) (by omega)
    have hq' : IntKind.i64.wrap (Int.tmod (IntKind.u64.wrap n) 17) = q := hq
    rw [hq']
    obtain ⟨b1, b2⟩ := least_small q0 q1
    have hsm : ∀ y13, y13 = v56_0 [List.getD (layM [y0, y1, y2, y3, y4, y5, y6, y7, y8, y9, y10]) 0 0, List.getD (layM [y0, y1, y2, y3, y4, y5, y6, y7, y8, y9, y10]) 1 0, List.getD (layM [y0, y1, y2, y3, y4, y5, y6, y7, y8, y9, y10]) 2 0, List.getD (layM [y0, y1, y2, y3, y4, y5, y6, y7, y8, y9, y10]) 3 0, List.getD (layM [y0, y1, y2, y3, y4, y5, y6, y7, y8, y9, y10]) 4 0, List.getD (layM [y0, y1, y2, y3, y4, y5, y6, y7, y8, y9, y10]) 5 0, List.getD (layM [y0, y1, y2, y3, y4, y5, y6, y7, y8, y9, y10]) 6 0, List.getD (layM [y0, y1, y2, y3, y4, y5, y6, y7, y8, y9, y10]) 7 0, List.getD (layM [y0, y1, y2, y3, y4, y5, y6, y7, y8, y9, y10]) 8 0, List.getD (layM [y0, y1, y2, y3, y4, y5, y6, y7, y8, y9, y10]) 9 0, List.getD (layM [y0, y1, y2, y3, y4, y5, y6, y7, y8, y9, y10]) 10 0, List.getD (layM [y0, y1, y2, y3, y4, y5, y6, y7, y8, y9, y10]) 11 0, List.getD (layM [y0, y1, y2, y3, y4, y5, y6, y7, y8, y9, y10]) 12 0, List.getD (layM [y0, y1, y2, y3, y4, y5, y6, y7, y8, y9, y10]) 13 0, List.getD (layM [y0, y1, y2, y3, y4, y5, y6, y7, y8, y9, y10]) 14 0, List.getD (layM [y0, y1, y2, y3, y4, y5, y6, y7, y8, y9, y10]) 15 0, List.getD (layM [y0, y1, y2, y3, y4, y5, y6, y7, y8, y9, y10]) 16 0, List.getD (layM [y0, y1, y2, y3, y4, y5, y6, y7, y8, y9, y10]) 17 0, List.getD (layM [y0, y1, y2, y3, y4, y5, y6, y7, y8, y9, y10]) 18 0, List.getD (layM [y0, y1, y2, y3, y4, y5, y6, y7, y8, y9, y10]) 19 0, List.getD (layM [y0, y1, y2, y3, y4, y5, y6, y7, y8, y9, y10]) 20 0, List.getD (layM [y0, y1, y2, y3, y4, y5, y6, y7, y8, y9, y10]) 21 0, List.getD (layM [y0, y1, y2, y3, y4, y5, y6, y7, y8, y9, y10]) 22 0, s0, s1, s2, s3, s4, s5, s6, q, 1] → y13 = decide (y2 - s6 ≤ 0) := by
      intro y13 h
      rw [h, may_val, b1, b2]
      have e1 : IntKind.i64.wrap (1 - 1) = 0 := by decide
      have e2 : IntKind.i64.wrap (IntKind.i64.wrap (s6 + 1) * 0) = 0 := by rw [Int.mul_zero]; decide
      rw [e1, e2, show ((0 : Int) != 0) = false from rfl, cond_false]
      have e3 : List.getD [y0, y1, y2, y3, y4, y5, y6, y7, y8, y9, y10] 2 0 = y2 := rfl
      rw [e3, dfalse (show ¬ 1 > y2 by omega), cond_false]
      exact congrArg (fun z => decide (z ≤ (0 : Int))) hop'
    -- a greater one
    have big : ∀ (y18 y19 : Bool) (n m : Int), 17 ≤ n → 17 ≤ m → n ≤ 9223372036854775807 → m ≤ 9223372036854775807 → v60_0 [n] ≤ v60_0 [m] →
        y18 = (bif (v50_1 [m, 1] != 0) then false else (bif decide (v50_0 [m, 1] > y2) then true else decide (v55_0 [y0, y1, y2, y3, y4, y5, y6, y7, y8, y9, y10, s0, s1, s2, s3, s4, s5, s6] ≤ IntKind.i64.wrap (IntKind.i64.wrap (s6 + 1) * IntKind.i64.wrap (v50_0 [m, 1] - 1))))) →
        y19 = (bif (v50_1 [n, 1] != 0) then false else (bif decide (v50_0 [n, 1] > y2) then true else decide (v55_0 [y0, y1, y2, y3, y4, y5, y6, y7, y8, y9, y10, s0, s1, s2, s3, s4, s5, s6] ≤ IntKind.i64.wrap (IntKind.i64.wrap (s6 + 1) * IntKind.i64.wrap (v50_0 [n, 1] - 1))))) →
        y18 = false → y19 = false := by
      intro y18 y19 n m hn hm hn' hm' hp h18 h19 hf
      rw [hf] at h18
      obtain ⟨n1, n2⟩ := least_big hn hn'
      obtain ⟨m1, m2⟩ := least_big hm hm'
      rw [pages_val (by omega) (by omega), pages_val (by omega) (by omega)] at hp
      rw [h19, n1, n2, show ((0 : Int) != 0) = false from rfl, cond_false]
      rw [m1, m2, show ((0 : Int) != 0) = false from rfl, cond_false] at h18
      generalize hA : (n - 1) / 32 + 1 = A at *
      generalize hB : (m - 1) / 32 + 1 = B at *
      have hA1 : 1 ≤ A := by omega
      by_cases hB2 : B > y2
      · rw [dtrue hB2] at h18; cases h18
      rw [dfalse hB2, cond_false, hop'] at h18
      rw [dfalse (show ¬ A > y2 by omega), cond_false, hop']
      have c1 := e_mul9 (a := s6 + 1) (b := A - 1) (m := 257) (n := 256) (by omega) (by omega) (by omega) (by omega)
      have c2 := e_mul9 (a := s6 + 1) (b := B - 1) (m := 257) (n := 256) (by omega) (by omega) (by omega) (by omega)
      have c3 : (s6 + 1) * (A - 1) ≤ (s6 + 1) * (B - 1) := Int.mul_le_mul_of_nonneg_left (by omega) (by omega)
      rw [wrap_id (x := s6 + 1) (by omega) (by omega), wrap_id (x := A - 1) (by omega) (by omega), wrap_id (x := (s6 + 1) * (A - 1)) (by omega) (by omega)]
      rw [wrap_id (x := s6 + 1) (by omega) (by omega), wrap_id (x := B - 1) (by omega) (by omega), wrap_id (x := (s6 + 1) * (B - 1)) (by omega) (by omega)] at h18
      have := of_decide_eq_false h18.symm
      exact dfalse (by omega)
    have tail : ∀ y16 y17 : Int, y16 = v60_0 [n] → y17 = v60_0 [m] → decide (n < 17) = false → decide (m < 17) = false → decide (y16 > y17) = false → v60_0 [n] ≤ v60_0 [m] ∧ 17 ≤ n ∧ 17 ≤ m := fun y16 y17 a b c d e => by
      rw [← a, ← b]
      have := of_decide_eq_false c; have := of_decide_eq_false d; have := of_decide_eq_false e
      omega
    refine ⟨trivial, fun y13 e13 => ⟨trivial, fun y14 e14 => br_false (not_beq_same ?_) (br_intro (fun h13 => ⟨trivial, fun y15 e15 => br_false (bne_false' ?_) ⟨trivial, fun y16 e16 => ⟨trivial, fun y17 e17 => br_intro (fun _ => ⟨trivial, hk _⟩) (fun g1 => br_intro (fun _ => ⟨trivial, hk _⟩) (fun g2 => br_intro (fun _ => ⟨trivial, hk _⟩) (fun g3 =>
        ⟨trivial, fun y18 e18 => br_intro (fun _ => ⟨trivial, hk _⟩) (fun g4 => ⟨trivial, fun y19 e19 => br_true ?_ ⟨trivial, hk _⟩⟩)⟩)))⟩⟩⟩)
        (fun _ => ⟨trivial, fun y16 e16 => ⟨trivial, fun y17 e17 => br_intro (fun _ => ⟨trivial, hk _⟩) (fun g1 => br_intro (fun _ => ⟨trivial, hk _⟩) (fun g2 => br_intro (fun _ => ⟨trivial, hk _⟩) (fun g3 =>
        ⟨trivial, fun y18 e18 => br_intro (fun _ => ⟨trivial, hk _⟩) (fun g4 => ⟨trivial, fun y19 e19 => br_true ?_ ⟨trivial, hk _⟩⟩)⟩)))⟩⟩))⟩⟩
    · rw [hsm y13 e13, e14]
      have : v55_0 [y0, y1, y2, y3, y4, y5, y6, y7, y8, y9, y10, s0, s1, s2, s3, s4, s5, s6] = y2 - s6 := hop'
      refine Eq.trans ?_ (congrArg (fun z => z == (0 : Int)) hop'.symm)
      rw [Bool.eq_iff_iff]
      simp
      omega
    · rw [hsm y13 e13] at h13
      have hz := of_decide_eq_true h13
      rw [e15]
      refine Eq.trans (e58_0 (c := [y0, y1, y2, y3, y4, y5, y6, y7, y8, y9, y10]) s0 s1 s2 s3 s4 s5 s6) ?_
      unfold v59_0
      simp only [List.getD_cons_zero, List.getD_cons_succ]
      simp (disch := omega) only [wrap_id]
      omega
    · obtain ⟨p1, p2, p3⟩ := tail y16 y17 e16 e17 g1 g2 g3
      rw [big y18 y19 n m p2 p3 hn.2 hm.2 p1 (e18.trans (may_val _ _ _ _ _ _ _ _ _)) (e19.trans (may_val _ _ _ _ _ _ _ _ _)) g4]
      rfl
    · obtain ⟨p1, p2, p3⟩ := tail y16 y17 e16 e17 g1 g2 g3
      rw [big y18 y19 n m p2 p3 hn.2 hm.2 p1 (e18.trans (may_val _ _ _ _ _ _ _ _ _)) (e19.trans (may_val _ _ _ _ _ _ _ _ _)) g4]
      rfl
  · rw [right_iff.2 R] at hr
    cases hr
end Go.Rx
