/- The program's layout and the reference's tell the same. -/
import Derived.Test.YtpgapdmmcanffaaD02j
import Derived.Test.YtpgapdmmcanffaaD02h
namespace Go.Rx
open Go.Proofs
set_option maxRecDepth 100000

theorem e_mul {a b : Int} {m n : Int} (h0 : 0 ≤ a) (h1 : a ≤ m) (h2 : 0 ≤ b) (h3 : b ≤ n) : 0 ≤ a * b ∧ a * b ≤ m * n :=
  ⟨Int.mul_nonneg h0 h2, Int.mul_le_mul h1 h3 h2 (Int.le_trans h0 h1)⟩
theorem ite_of {c : Prop} [Decidable c] {α : Type} {a b x : α} (h1 : c → a = x) (h2 : ¬ c → b = x) : (if c then a else b) = x := by
  split
  · exact h1 ‹_›
  · exact h2 ‹_›

theorem e18_0 {c : List Int} (R : Right c) : v18_0 [List.getD (layM c) 0 0, List.getD (layM c) 1 0, List.getD (layM c) 2 0, List.getD (layM c) 3 0, List.getD (layM c) 4 0, List.getD (layM c) 5 0, List.getD (layM c) 6 0, List.getD (layM c) 7 0, List.getD (layM c) 8 0, List.getD (layM c) 9 0, List.getD (layM c) 10 0, List.getD (layM c) 11 0, List.getD (layM c) 12 0, List.getD (layM c) 13 0, List.getD (layM c) 14 0, List.getD (layM c) 15 0, List.getD (layM c) 16 0, List.getD (layM c) 17 0, List.getD (layM c) 18 0, List.getD (layM c) 19 0, List.getD (layM c) 20 0, List.getD (layM c) 21 0, List.getD (layM c) 22 0] = v19_0 [List.getD c 0 0, List.getD c 1 0, List.getD c 2 0, List.getD c 3 0, List.getD c 4 0, List.getD c 5 0, List.getD c 6 0, List.getD c 7 0, List.getD c 8 0, List.getD c 9 0, List.getD c 10 0] := by
  obtain ⟨r0, r1, r2, r3, r4, r5, r6, r7, r8, r9, r10⟩ := R
  have hM := e_mul (a := i c 1) (b := i c 8 + 1) (m := 8) (n := 9) (by omega) (by omega) (by omega) (by omega)
  unfold v18_0 v19_0 
  simp only [List.getD_cons_zero, List.getD_cons_succ, layM, a11, a10, a9, a8, a7, a6, a1, a0]
  unfold i at *
  generalize c.getD 0 0 = q0 at *
  generalize c.getD 1 0 = q1 at *
  generalize c.getD 2 0 = q2 at *
  generalize c.getD 3 0 = q3 at *
  generalize c.getD 8 0 = q8 at *
  generalize c.getD 9 0 = q9 at *
  have hq : 5 * q1 * (q8 + 1) = 5 * (q1 * (q8 + 1)) := Int.mul_assoc _ _ _
  generalize q1 * (q8 + 1) = M at *
  simp (disch := omega) only [wrap_id, Int.tdiv_eq_ediv_of_nonneg, Int.tmod_eq_emod_of_nonneg, hq, Bool.cond_eq_ite, decide_eq_true_eq, Bool.not_eq_true', decide_eq_false_iff_not, Bool.or_eq_true, Bool.and_eq_true, beq_iff_eq]
  repeat' split
  all_goals try (first | omega | rfl | (simp (disch := omega) only [wrap_id, Int.tdiv_eq_ediv_of_nonneg, Int.tmod_eq_emod_of_nonneg, hq]; done) | (simp (disch := omega) only [wrap_id, Int.tdiv_eq_ediv_of_nonneg, Int.tmod_eq_emod_of_nonneg, hq]; omega))

theorem e20_0 {c : List Int} (R : Right c) (p : Int) : v20_0 [List.getD (layM c) 0 0, List.getD (layM c) 1 0, List.getD (layM c) 2 0, List.getD (layM c) 3 0, List.getD (layM c) 4 0, List.getD (layM c) 5 0, List.getD (layM c) 6 0, List.getD (layM c) 7 0, List.getD (layM c) 8 0, List.getD (layM c) 9 0, List.getD (layM c) 10 0, List.getD (layM c) 11 0, List.getD (layM c) 12 0, List.getD (layM c) 13 0, List.getD (layM c) 14 0, List.getD (layM c) 15 0, List.getD (layM c) 16 0, List.getD (layM c) 17 0, List.getD (layM c) 18 0, List.getD (layM c) 19 0, List.getD (layM c) 20 0, List.getD (layM c) 21 0, List.getD (layM c) 22 0, p] = v21_0 [List.getD c 0 0, List.getD c 1 0, List.getD c 2 0, List.getD c 3 0, List.getD c 4 0, List.getD c 5 0, List.getD c 6 0, List.getD c 7 0, List.getD c 8 0, List.getD c 9 0, List.getD c 10 0, p] := by
  obtain ⟨r0, r1, r2, r3, r4, r5, r6, r7, r8, r9, r10⟩ := R
  have hM := e_mul (a := i c 1) (b := i c 8 + 1) (m := 8) (n := 9) (by omega) (by omega) (by omega) (by omega)
  unfold v20_0 v21_0 v18_0
  simp only [List.getD_cons_zero, List.getD_cons_succ, layM, a11, a10, a9, a8, a7, a6, a1, a0]
  unfold i at *
  generalize c.getD 0 0 = q0 at *
  generalize c.getD 1 0 = q1 at *
  generalize c.getD 2 0 = q2 at *
  generalize c.getD 3 0 = q3 at *
  generalize c.getD 8 0 = q8 at *
  generalize c.getD 9 0 = q9 at *
  have hq : 5 * q1 * (q8 + 1) = 5 * (q1 * (q8 + 1)) := Int.mul_assoc _ _ _
  generalize q1 * (q8 + 1) = M at *
  simp (disch := omega) only [wrap_id, Int.tdiv_eq_ediv_of_nonneg, Int.tmod_eq_emod_of_nonneg, hq, Bool.cond_eq_ite, decide_eq_true_eq, Bool.not_eq_true', decide_eq_false_iff_not, Bool.or_eq_true, Bool.and_eq_true, beq_iff_eq]
  repeat' split
  all_goals try (first | omega | rfl | (simp (disch := omega) only [wrap_id, Int.tdiv_eq_ediv_of_nonneg, Int.tmod_eq_emod_of_nonneg, hq]; done) | (simp (disch := omega) only [wrap_id, Int.tdiv_eq_ediv_of_nonneg, Int.tmod_eq_emod_of_nonneg, hq]; omega))

theorem e24_0 {c : List Int} (R : Right c) (p : Int) : v24_0 [List.getD (layM c) 0 0, List.getD (layM c) 1 0, List.getD (layM c) 2 0, List.getD (layM c) 3 0, List.getD (layM c) 4 0, List.getD (layM c) 5 0, List.getD (layM c) 6 0, List.getD (layM c) 7 0, List.getD (layM c) 8 0, List.getD (layM c) 9 0, List.getD (layM c) 10 0, List.getD (layM c) 11 0, List.getD (layM c) 12 0, List.getD (layM c) 13 0, List.getD (layM c) 14 0, List.getD (layM c) 15 0, List.getD (layM c) 16 0, List.getD (layM c) 17 0, List.getD (layM c) 18 0, List.getD (layM c) 19 0, List.getD (layM c) 20 0, List.getD (layM c) 21 0, List.getD (layM c) 22 0, p] = v25_0 [List.getD c 0 0, List.getD c 1 0, List.getD c 2 0, List.getD c 3 0, List.getD c 4 0, List.getD c 5 0, List.getD c 6 0, List.getD c 7 0, List.getD c 8 0, List.getD c 9 0, List.getD c 10 0, p] := by
  obtain ⟨r0, r1, r2, r3, r4, r5, r6, r7, r8, r9, r10⟩ := R
  have hM := e_mul (a := i c 1) (b := i c 8 + 1) (m := 8) (n := 9) (by omega) (by omega) (by omega) (by omega)
  unfold v24_0 v25_0 
  simp only [List.getD_cons_zero, List.getD_cons_succ, layM, a11, a10, a9, a8, a7, a6, a1, a0]
  unfold i at *
  generalize c.getD 0 0 = q0 at *
  generalize c.getD 1 0 = q1 at *
  generalize c.getD 2 0 = q2 at *
  generalize c.getD 3 0 = q3 at *
  generalize c.getD 8 0 = q8 at *
  generalize c.getD 9 0 = q9 at *
  have hq : 5 * q1 * (q8 + 1) = 5 * (q1 * (q8 + 1)) := Int.mul_assoc _ _ _
  generalize q1 * (q8 + 1) = M at *
  simp (disch := omega) only [wrap_id, Int.tdiv_eq_ediv_of_nonneg, Int.tmod_eq_emod_of_nonneg, hq, Bool.cond_eq_ite, decide_eq_true_eq, Bool.not_eq_true', decide_eq_false_iff_not, Bool.or_eq_true, Bool.and_eq_true, beq_iff_eq]
  repeat' split
  all_goals try (first | omega | rfl | (simp (disch := omega) only [wrap_id, Int.tdiv_eq_ediv_of_nonneg, Int.tmod_eq_emod_of_nonneg, hq]; done) | (simp (disch := omega) only [wrap_id, Int.tdiv_eq_ediv_of_nonneg, Int.tmod_eq_emod_of_nonneg, hq]; omega))

theorem e26_0 {c : List Int} (R : Right c) (p : Int) : v26_0 [List.getD (layM c) 0 0, List.getD (layM c) 1 0, List.getD (layM c) 2 0, List.getD (layM c) 3 0, List.getD (layM c) 4 0, List.getD (layM c) 5 0, List.getD (layM c) 6 0, List.getD (layM c) 7 0, List.getD (layM c) 8 0, List.getD (layM c) 9 0, List.getD (layM c) 10 0, List.getD (layM c) 11 0, List.getD (layM c) 12 0, List.getD (layM c) 13 0, List.getD (layM c) 14 0, List.getD (layM c) 15 0, List.getD (layM c) 16 0, List.getD (layM c) 17 0, List.getD (layM c) 18 0, List.getD (layM c) 19 0, List.getD (layM c) 20 0, List.getD (layM c) 21 0, List.getD (layM c) 22 0, p] = v27_0 [List.getD c 0 0, List.getD c 1 0, List.getD c 2 0, List.getD c 3 0, List.getD c 4 0, List.getD c 5 0, List.getD c 6 0, List.getD c 7 0, List.getD c 8 0, List.getD c 9 0, List.getD c 10 0, p] := by
  obtain ⟨r0, r1, r2, r3, r4, r5, r6, r7, r8, r9, r10⟩ := R
  have hM := e_mul (a := i c 1) (b := i c 8 + 1) (m := 8) (n := 9) (by omega) (by omega) (by omega) (by omega)
  unfold v26_0 v27_0 
  simp only [List.getD_cons_zero, List.getD_cons_succ, layM, a11, a10, a9, a8, a7, a6, a1, a0]
  unfold i at *
  generalize c.getD 0 0 = q0 at *
  generalize c.getD 1 0 = q1 at *
  generalize c.getD 2 0 = q2 at *
  generalize c.getD 3 0 = q3 at *
  generalize c.getD 8 0 = q8 at *
  generalize c.getD 9 0 = q9 at *
  have hq : 5 * q1 * (q8 + 1) = 5 * (q1 * (q8 + 1)) := Int.mul_assoc _ _ _
  generalize q1 * (q8 + 1) = M at *
  simp (disch := omega) only [wrap_id, Int.tdiv_eq_ediv_of_nonneg, Int.tmod_eq_emod_of_nonneg, hq, Bool.cond_eq_ite, decide_eq_true_eq, Bool.not_eq_true', decide_eq_false_iff_not, Bool.or_eq_true, Bool.and_eq_true, beq_iff_eq]
  repeat' split
  all_goals try (first | omega | rfl | (simp (disch := omega) only [wrap_id, Int.tdiv_eq_ediv_of_nonneg, Int.tmod_eq_emod_of_nonneg, hq]; done) | (simp (disch := omega) only [wrap_id, Int.tdiv_eq_ediv_of_nonneg, Int.tmod_eq_emod_of_nonneg, hq]; omega))

theorem e28_0 {c : List Int} (R : Right c) (p : Int) : v28_0 [List.getD (layM c) 0 0, List.getD (layM c) 1 0, List.getD (layM c) 2 0, List.getD (layM c) 3 0, List.getD (layM c) 4 0, List.getD (layM c) 5 0, List.getD (layM c) 6 0, List.getD (layM c) 7 0, List.getD (layM c) 8 0, List.getD (layM c) 9 0, List.getD (layM c) 10 0, List.getD (layM c) 11 0, List.getD (layM c) 12 0, List.getD (layM c) 13 0, List.getD (layM c) 14 0, List.getD (layM c) 15 0, List.getD (layM c) 16 0, List.getD (layM c) 17 0, List.getD (layM c) 18 0, List.getD (layM c) 19 0, List.getD (layM c) 20 0, List.getD (layM c) 21 0, List.getD (layM c) 22 0, p] = v29_0 [List.getD c 0 0, List.getD c 1 0, List.getD c 2 0, List.getD c 3 0, List.getD c 4 0, List.getD c 5 0, List.getD c 6 0, List.getD c 7 0, List.getD c 8 0, List.getD c 9 0, List.getD c 10 0, p] := by
  obtain ⟨r0, r1, r2, r3, r4, r5, r6, r7, r8, r9, r10⟩ := R
  have hM := e_mul (a := i c 1) (b := i c 8 + 1) (m := 8) (n := 9) (by omega) (by omega) (by omega) (by omega)
  unfold v28_0 v29_0 
  simp only [List.getD_cons_zero, List.getD_cons_succ, layM, a11, a10, a9, a8, a7, a6, a1, a0]
  unfold i at *
  generalize c.getD 0 0 = q0 at *
  generalize c.getD 1 0 = q1 at *
  generalize c.getD 2 0 = q2 at *
  generalize c.getD 3 0 = q3 at *
  generalize c.getD 8 0 = q8 at *
  generalize c.getD 9 0 = q9 at *
  have hq : 5 * q1 * (q8 + 1) = 5 * (q1 * (q8 + 1)) := Int.mul_assoc _ _ _
  generalize q1 * (q8 + 1) = M at *
  simp (disch := omega) only [wrap_id, Int.tdiv_eq_ediv_of_nonneg, Int.tmod_eq_emod_of_nonneg, hq, Bool.cond_eq_ite, decide_eq_true_eq, Bool.not_eq_true', decide_eq_false_iff_not, Bool.or_eq_true, Bool.and_eq_true, beq_iff_eq]
  repeat' split
  all_goals try (first | omega | rfl | (simp (disch := omega) only [wrap_id, Int.tdiv_eq_ediv_of_nonneg, Int.tmod_eq_emod_of_nonneg, hq]; done) | (simp (disch := omega) only [wrap_id, Int.tdiv_eq_ediv_of_nonneg, Int.tmod_eq_emod_of_nonneg, hq]; omega))

theorem e30_0 {c : List Int} (R : Right c) (p : Int) : v30_0 [List.getD (layM c) 0 0, List.getD (layM c) 1 0, List.getD (layM c) 2 0, List.getD (layM c) 3 0, List.getD (layM c) 4 0, List.getD (layM c) 5 0, List.getD (layM c) 6 0, List.getD (layM c) 7 0, List.getD (layM c) 8 0, List.getD (layM c) 9 0, List.getD (layM c) 10 0, List.getD (layM c) 11 0, List.getD (layM c) 12 0, List.getD (layM c) 13 0, List.getD (layM c) 14 0, List.getD (layM c) 15 0, List.getD (layM c) 16 0, List.getD (layM c) 17 0, List.getD (layM c) 18 0, List.getD (layM c) 19 0, List.getD (layM c) 20 0, List.getD (layM c) 21 0, List.getD (layM c) 22 0, p] = v31_0 [List.getD c 0 0, List.getD c 1 0, List.getD c 2 0, List.getD c 3 0, List.getD c 4 0, List.getD c 5 0, List.getD c 6 0, List.getD c 7 0, List.getD c 8 0, List.getD c 9 0, List.getD c 10 0, p] := by
  obtain ⟨r0, r1, r2, r3, r4, r5, r6, r7, r8, r9, r10⟩ := R
  have hM := e_mul (a := i c 1) (b := i c 8 + 1) (m := 8) (n := 9) (by omega) (by omega) (by omega) (by omega)
  unfold v30_0 v31_0 
  simp only [List.getD_cons_zero, List.getD_cons_succ, layM, a11, a10, a9, a8, a7, a6, a1, a0]
  unfold i at *
  generalize c.getD 0 0 = q0 at *
  generalize c.getD 1 0 = q1 at *
  generalize c.getD 2 0 = q2 at *
  generalize c.getD 3 0 = q3 at *
  generalize c.getD 8 0 = q8 at *
  generalize c.getD 9 0 = q9 at *
  have hq : 5 * q1 * (q8 + 1) = 5 * (q1 * (q8 + 1)) := Int.mul_assoc _ _ _
  generalize q1 * (q8 + 1) = M at *
  simp (disch := omega) only [wrap_id, Int.tdiv_eq_ediv_of_nonneg, Int.tmod_eq_emod_of_nonneg, hq, Bool.cond_eq_ite, decide_eq_true_eq, Bool.not_eq_true', decide_eq_false_iff_not, Bool.or_eq_true, Bool.and_eq_true, beq_iff_eq]
  repeat' split
  all_goals try (first | omega | rfl | (simp (disch := omega) only [wrap_id, Int.tdiv_eq_ediv_of_nonneg, Int.tmod_eq_emod_of_nonneg, hq]; done) | (simp (disch := omega) only [wrap_id, Int.tdiv_eq_ediv_of_nonneg, Int.tmod_eq_emod_of_nonneg, hq]; omega))

theorem e32_0 {c : List Int} (R : Right c) (p : Int) : v32_0 [List.getD (layM c) 0 0, List.getD (layM c) 1 0, List.getD (layM c) 2 0, List.getD (layM c) 3 0, List.getD (layM c) 4 0, List.getD (layM c) 5 0, List.getD (layM c) 6 0, List.getD (layM c) 7 0, List.getD (layM c) 8 0, List.getD (layM c) 9 0, List.getD (layM c) 10 0, List.getD (layM c) 11 0, List.getD (layM c) 12 0, List.getD (layM c) 13 0, List.getD (layM c) 14 0, List.getD (layM c) 15 0, List.getD (layM c) 16 0, List.getD (layM c) 17 0, List.getD (layM c) 18 0, List.getD (layM c) 19 0, List.getD (layM c) 20 0, List.getD (layM c) 21 0, List.getD (layM c) 22 0, p] = v33_0 [List.getD c 0 0, List.getD c 1 0, List.getD c 2 0, List.getD c 3 0, List.getD c 4 0, List.getD c 5 0, List.getD c 6 0, List.getD c 7 0, List.getD c 8 0, List.getD c 9 0, List.getD c 10 0, p] := by
  obtain ⟨r0, r1, r2, r3, r4, r5, r6, r7, r8, r9, r10⟩ := R
  have hM := e_mul (a := i c 1) (b := i c 8 + 1) (m := 8) (n := 9) (by omega) (by omega) (by omega) (by omega)
  unfold v32_0 v33_0 
  simp only [List.getD_cons_zero, List.getD_cons_succ, layM, a11, a10, a9, a8, a7, a6, a1, a0]
  unfold i at *
  generalize c.getD 0 0 = q0 at *
  generalize c.getD 1 0 = q1 at *
  generalize c.getD 2 0 = q2 at *
  generalize c.getD 3 0 = q3 at *
  generalize c.getD 8 0 = q8 at *
  generalize c.getD 9 0 = q9 at *
  have hq : 5 * q1 * (q8 + 1) = 5 * (q1 * (q8 + 1)) := Int.mul_assoc _ _ _
  generalize q1 * (q8 + 1) = M at *
  simp (disch := omega) only [wrap_id, Int.tdiv_eq_ediv_of_nonneg, Int.tmod_eq_emod_of_nonneg, hq, Bool.cond_eq_ite, decide_eq_true_eq, Bool.not_eq_true', decide_eq_false_iff_not, Bool.or_eq_true, Bool.and_eq_true, beq_iff_eq]
  repeat' split
  all_goals try (first | omega | rfl | (simp (disch := omega) only [wrap_id, Int.tdiv_eq_ediv_of_nonneg, Int.tmod_eq_emod_of_nonneg, hq]; done) | (simp (disch := omega) only [wrap_id, Int.tdiv_eq_ediv_of_nonneg, Int.tmod_eq_emod_of_nonneg, hq]; omega))

theorem e34_0 {c : List Int} (R : Right c) (p : Int) : v34_0 [List.getD (layM c) 0 0, List.getD (layM c) 1 0, List.getD (layM c) 2 0, List.getD (layM c) 3 0, List.getD (layM c) 4 0, List.getD (layM c) 5 0, List.getD (layM c) 6 0, List.getD (layM c) 7 0, List.getD (layM c) 8 0, List.getD (layM c) 9 0, List.getD (layM c) 10 0, List.getD (layM c) 11 0, List.getD (layM c) 12 0, List.getD (layM c) 13 0, List.getD (layM c) 14 0, List.getD (layM c) 15 0, List.getD (layM c) 16 0, List.getD (layM c) 17 0, List.getD (layM c) 18 0, List.getD (layM c) 19 0, List.getD (layM c) 20 0, List.getD (layM c) 21 0, List.getD (layM c) 22 0, p] = v35_0 [List.getD c 0 0, List.getD c 1 0, List.getD c 2 0, List.getD c 3 0, List.getD c 4 0, List.getD c 5 0, List.getD c 6 0, List.getD c 7 0, List.getD c 8 0, List.getD c 9 0, List.getD c 10 0, p] := by
  obtain ⟨r0, r1, r2, r3, r4, r5, r6, r7, r8, r9, r10⟩ := R
  have hM := e_mul (a := i c 1) (b := i c 8 + 1) (m := 8) (n := 9) (by omega) (by omega) (by omega) (by omega)
  unfold v34_0 v35_0 
  simp only [List.getD_cons_zero, List.getD_cons_succ, layM, a11, a10, a9, a8, a7, a6, a1, a0]
  unfold i at *
  generalize c.getD 0 0 = q0 at *
  generalize c.getD 1 0 = q1 at *
  generalize c.getD 2 0 = q2 at *
  generalize c.getD 3 0 = q3 at *
  generalize c.getD 8 0 = q8 at *
  generalize c.getD 9 0 = q9 at *
  have hq : 5 * q1 * (q8 + 1) = 5 * (q1 * (q8 + 1)) := Int.mul_assoc _ _ _
  generalize q1 * (q8 + 1) = M at *
  simp (disch := omega) only [wrap_id, Int.tdiv_eq_ediv_of_nonneg, Int.tmod_eq_emod_of_nonneg, hq, Bool.cond_eq_ite, decide_eq_true_eq, Bool.not_eq_true', decide_eq_false_iff_not, Bool.or_eq_true, Bool.and_eq_true, beq_iff_eq]
  repeat' split
  all_goals try (first | omega | rfl | (simp (disch := omega) only [wrap_id, Int.tdiv_eq_ediv_of_nonneg, Int.tmod_eq_emod_of_nonneg, hq]; done) | (simp (disch := omega) only [wrap_id, Int.tdiv_eq_ediv_of_nonneg, Int.tmod_eq_emod_of_nonneg, hq]; omega))

theorem e15_0 {c : List Int} (R : Right c) : v15_0 [List.getD (layM c) 0 0, List.getD (layM c) 1 0, List.getD (layM c) 2 0, List.getD (layM c) 3 0, List.getD (layM c) 4 0, List.getD (layM c) 5 0, List.getD (layM c) 6 0, List.getD (layM c) 7 0, List.getD (layM c) 8 0, List.getD (layM c) 9 0, List.getD (layM c) 10 0, List.getD (layM c) 11 0, List.getD (layM c) 12 0, List.getD (layM c) 13 0, List.getD (layM c) 14 0, List.getD (layM c) 15 0, List.getD (layM c) 16 0, List.getD (layM c) 17 0, List.getD (layM c) 18 0, List.getD (layM c) 19 0, List.getD (layM c) 20 0, List.getD (layM c) 21 0, List.getD (layM c) 22 0] = v41_0 [List.getD c 0 0, List.getD c 1 0, List.getD c 2 0, List.getD c 3 0, List.getD c 4 0, List.getD c 5 0, List.getD c 6 0, List.getD c 7 0, List.getD c 8 0, List.getD c 9 0, List.getD c 10 0] := by
  obtain ⟨r0, r1, r2, r3, r4, r5, r6, r7, r8, r9, r10⟩ := R
  have hM := e_mul (a := i c 1) (b := i c 8 + 1) (m := 8) (n := 9) (by omega) (by omega) (by omega) (by omega)
  unfold v15_0 v41_0 
  simp only [List.getD_cons_zero, List.getD_cons_succ, layM, a11, a10, a9, a8, a7, a6, a1, a0]
  unfold i at *
  generalize c.getD 0 0 = q0 at *
  generalize c.getD 1 0 = q1 at *
  generalize c.getD 2 0 = q2 at *
  generalize c.getD 3 0 = q3 at *
  generalize c.getD 8 0 = q8 at *
  generalize c.getD 9 0 = q9 at *
  have hq : 5 * q1 * (q8 + 1) = 5 * (q1 * (q8 + 1)) := Int.mul_assoc _ _ _
  generalize q1 * (q8 + 1) = M at *
  simp (disch := omega) only [wrap_id, Int.tdiv_eq_ediv_of_nonneg, Int.tmod_eq_emod_of_nonneg, hq, Bool.cond_eq_ite, decide_eq_true_eq, Bool.not_eq_true', decide_eq_false_iff_not, Bool.or_eq_true, Bool.and_eq_true, beq_iff_eq]
  repeat' split
  all_goals try (first | omega | rfl | (simp (disch := omega) only [wrap_id, Int.tdiv_eq_ediv_of_nonneg, Int.tmod_eq_emod_of_nonneg, hq]; done) | (simp (disch := omega) only [wrap_id, Int.tdiv_eq_ediv_of_nonneg, Int.tmod_eq_emod_of_nonneg, hq]; omega))

theorem e38_0 {c : List Int} (R : Right c) : v38_0 [List.getD (layM c) 0 0, List.getD (layM c) 1 0, List.getD (layM c) 2 0, List.getD (layM c) 3 0, List.getD (layM c) 4 0, List.getD (layM c) 5 0, List.getD (layM c) 6 0, List.getD (layM c) 7 0, List.getD (layM c) 8 0, List.getD (layM c) 9 0, List.getD (layM c) 10 0, List.getD (layM c) 11 0, List.getD (layM c) 12 0, List.getD (layM c) 13 0, List.getD (layM c) 14 0, List.getD (layM c) 15 0, List.getD (layM c) 16 0, List.getD (layM c) 17 0, List.getD (layM c) 18 0, List.getD (layM c) 19 0, List.getD (layM c) 20 0, List.getD (layM c) 21 0, List.getD (layM c) 22 0] = v42_0 [List.getD c 0 0, List.getD c 1 0, List.getD c 2 0, List.getD c 3 0, List.getD c 4 0, List.getD c 5 0, List.getD c 6 0, List.getD c 7 0, List.getD c 8 0, List.getD c 9 0, List.getD c 10 0] := by
  obtain ⟨r0, r1, r2, r3, r4, r5, r6, r7, r8, r9, r10⟩ := R
  have hM := e_mul (a := i c 1) (b := i c 8 + 1) (m := 8) (n := 9) (by omega) (by omega) (by omega) (by omega)
  unfold v38_0 v42_0 
  simp only [List.getD_cons_zero, List.getD_cons_succ, layM, a11, a10, a9, a8, a7, a6, a1, a0]
  unfold i at *
  generalize c.getD 0 0 = q0 at *
  generalize c.getD 1 0 = q1 at *
  generalize c.getD 2 0 = q2 at *
  generalize c.getD 3 0 = q3 at *
  generalize c.getD 8 0 = q8 at *
  generalize c.getD 9 0 = q9 at *
  have hq : 5 * q1 * (q8 + 1) = 5 * (q1 * (q8 + 1)) := Int.mul_assoc _ _ _
  generalize q1 * (q8 + 1) = M at *
  simp (disch := omega) only [wrap_id, Int.tdiv_eq_ediv_of_nonneg, Int.tmod_eq_emod_of_nonneg, hq, Bool.cond_eq_ite, decide_eq_true_eq, Bool.not_eq_true', decide_eq_false_iff_not, Bool.or_eq_true, Bool.and_eq_true, beq_iff_eq]
  repeat' split
  all_goals try (first | omega | rfl | (simp (disch := omega) only [wrap_id, Int.tdiv_eq_ediv_of_nonneg, Int.tmod_eq_emod_of_nonneg, hq]; done) | (simp (disch := omega) only [wrap_id, Int.tdiv_eq_ediv_of_nonneg, Int.tmod_eq_emod_of_nonneg, hq]; omega))

theorem e39_0 {c : List Int} (R : Right c) (p : Int) : v39_0 [List.getD (layM c) 0 0, List.getD (layM c) 1 0, List.getD (layM c) 2 0, List.getD (layM c) 3 0, List.getD (layM c) 4 0, List.getD (layM c) 5 0, List.getD (layM c) 6 0, List.getD (layM c) 7 0, List.getD (layM c) 8 0, List.getD (layM c) 9 0, List.getD (layM c) 10 0, List.getD (layM c) 11 0, List.getD (layM c) 12 0, List.getD (layM c) 13 0, List.getD (layM c) 14 0, List.getD (layM c) 15 0, List.getD (layM c) 16 0, List.getD (layM c) 17 0, List.getD (layM c) 18 0, List.getD (layM c) 19 0, List.getD (layM c) 20 0, List.getD (layM c) 21 0, List.getD (layM c) 22 0, p] = v49_0 [List.getD c 0 0, List.getD c 1 0, List.getD c 2 0, List.getD c 3 0, List.getD c 4 0, List.getD c 5 0, List.getD c 6 0, List.getD c 7 0, List.getD c 8 0, List.getD c 9 0, List.getD c 10 0, p] := by
  obtain ⟨r0, r1, r2, r3, r4, r5, r6, r7, r8, r9, r10⟩ := R
  have hM := e_mul (a := i c 1) (b := i c 8 + 1) (m := 8) (n := 9) (by omega) (by omega) (by omega) (by omega)
  unfold v39_0 v49_0 
  simp only [List.getD_cons_zero, List.getD_cons_succ, layM, a11, a10, a9, a8, a7, a6, a1, a0]
  unfold i at *
  generalize c.getD 0 0 = q0 at *
  generalize c.getD 1 0 = q1 at *
  generalize c.getD 2 0 = q2 at *
  generalize c.getD 3 0 = q3 at *
  generalize c.getD 8 0 = q8 at *
  generalize c.getD 9 0 = q9 at *
  have hq : 5 * q1 * (q8 + 1) = 5 * (q1 * (q8 + 1)) := Int.mul_assoc _ _ _
  generalize q1 * (q8 + 1) = M at *
  simp (disch := omega) only [wrap_id, Int.tdiv_eq_ediv_of_nonneg, Int.tmod_eq_emod_of_nonneg, hq, Bool.cond_eq_ite, decide_eq_true_eq, Bool.not_eq_true', decide_eq_false_iff_not, Bool.or_eq_true, Bool.and_eq_true, beq_iff_eq]
  repeat' split
  all_goals try (first | omega | rfl | (simp (disch := omega) only [wrap_id, Int.tdiv_eq_ediv_of_nonneg, Int.tmod_eq_emod_of_nonneg, hq]; done) | (simp (disch := omega) only [wrap_id, Int.tdiv_eq_ediv_of_nonneg, Int.tmod_eq_emod_of_nonneg, hq]; omega))

theorem e45_0 {c : List Int} (R : Right c) (p : Int) : v45_0 [List.getD (layM c) 0 0, List.getD (layM c) 1 0, List.getD (layM c) 2 0, List.getD (layM c) 3 0, List.getD (layM c) 4 0, List.getD (layM c) 5 0, List.getD (layM c) 6 0, List.getD (layM c) 7 0, List.getD (layM c) 8 0, List.getD (layM c) 9 0, List.getD (layM c) 10 0, List.getD (layM c) 11 0, List.getD (layM c) 12 0, List.getD (layM c) 13 0, List.getD (layM c) 14 0, List.getD (layM c) 15 0, List.getD (layM c) 16 0, List.getD (layM c) 17 0, List.getD (layM c) 18 0, List.getD (layM c) 19 0, List.getD (layM c) 20 0, List.getD (layM c) 21 0, List.getD (layM c) 22 0, p] = v48_0 [List.getD c 0 0, List.getD c 1 0, List.getD c 2 0, List.getD c 3 0, List.getD c 4 0, List.getD c 5 0, List.getD c 6 0, List.getD c 7 0, List.getD c 8 0, List.getD c 9 0, List.getD c 10 0, p] := by
  obtain ⟨r0, r1, r2, r3, r4, r5, r6, r7, r8, r9, r10⟩ := R
  have hM := e_mul (a := i c 1) (b := i c 8 + 1) (m := 8) (n := 9) (by omega) (by omega) (by omega) (by omega)
  unfold v45_0 v48_0 
  simp only [List.getD_cons_zero, List.getD_cons_succ, layM, a11, a10, a9, a8, a7, a6, a1, a0]
  unfold i at *
  generalize c.getD 0 0 = q0 at *
  generalize c.getD 1 0 = q1 at *
  generalize c.getD 2 0 = q2 at *
  generalize c.getD 3 0 = q3 at *
  generalize c.getD 8 0 = q8 at *
  generalize c.getD 9 0 = q9 at *
  have hq : 5 * q1 * (q8 + 1) = 5 * (q1 * (q8 + 1)) := Int.mul_assoc _ _ _
  generalize q1 * (q8 + 1) = M at *
  simp (disch := omega) only [wrap_id, Int.tdiv_eq_ediv_of_nonneg, Int.tmod_eq_emod_of_nonneg, hq, Bool.cond_eq_ite, decide_eq_true_eq, Bool.not_eq_true', decide_eq_false_iff_not, Bool.or_eq_true, Bool.and_eq_true, beq_iff_eq]
  repeat' split
  all_goals try (first | omega | rfl | (simp (disch := omega) only [wrap_id, Int.tdiv_eq_ediv_of_nonneg, Int.tmod_eq_emod_of_nonneg, hq]; done) | (simp (disch := omega) only [wrap_id, Int.tdiv_eq_ediv_of_nonneg, Int.tmod_eq_emod_of_nonneg, hq]; omega))

theorem e44_0 {c : List Int} (R : Right c) (p : Int) (q : Int) : v44_0 [List.getD (layM c) 0 0, List.getD (layM c) 1 0, List.getD (layM c) 2 0, List.getD (layM c) 3 0, List.getD (layM c) 4 0, List.getD (layM c) 5 0, List.getD (layM c) 6 0, List.getD (layM c) 7 0, List.getD (layM c) 8 0, List.getD (layM c) 9 0, List.getD (layM c) 10 0, List.getD (layM c) 11 0, List.getD (layM c) 12 0, List.getD (layM c) 13 0, List.getD (layM c) 14 0, List.getD (layM c) 15 0, List.getD (layM c) 16 0, List.getD (layM c) 17 0, List.getD (layM c) 18 0, List.getD (layM c) 19 0, List.getD (layM c) 20 0, List.getD (layM c) 21 0, List.getD (layM c) 22 0, p, q] = v47_0 [List.getD c 0 0, List.getD c 1 0, List.getD c 2 0, List.getD c 3 0, List.getD c 4 0, List.getD c 5 0, List.getD c 6 0, List.getD c 7 0, List.getD c 8 0, List.getD c 9 0, List.getD c 10 0, p, q] := by
  obtain ⟨r0, r1, r2, r3, r4, r5, r6, r7, r8, r9, r10⟩ := R
  have hM := e_mul (a := i c 1) (b := i c 8 + 1) (m := 8) (n := 9) (by omega) (by omega) (by omega) (by omega)
  unfold v44_0 v47_0 
  simp only [List.getD_cons_zero, List.getD_cons_succ, layM, a11, a10, a9, a8, a7, a6, a1, a0]
  unfold i at *
  generalize c.getD 0 0 = q0 at *
  generalize c.getD 1 0 = q1 at *
  generalize c.getD 2 0 = q2 at *
  generalize c.getD 3 0 = q3 at *
  generalize c.getD 8 0 = q8 at *
  generalize c.getD 9 0 = q9 at *
  have hq : 5 * q1 * (q8 + 1) = 5 * (q1 * (q8 + 1)) := Int.mul_assoc _ _ _
  generalize q1 * (q8 + 1) = M at *
  simp (disch := omega) only [wrap_id, Int.tdiv_eq_ediv_of_nonneg, Int.tmod_eq_emod_of_nonneg, hq, Bool.cond_eq_ite, decide_eq_true_eq, Bool.not_eq_true', decide_eq_false_iff_not, Bool.or_eq_true, Bool.and_eq_true, beq_iff_eq]
  repeat' split
  all_goals try (first | omega | rfl | (simp (disch := omega) only [wrap_id, Int.tdiv_eq_ediv_of_nonneg, Int.tmod_eq_emod_of_nonneg, hq]; done) | (simp (disch := omega) only [wrap_id, Int.tdiv_eq_ediv_of_nonneg, Int.tmod_eq_emod_of_nonneg, hq]; omega))

theorem e37_0 {c : List Int} (R : Right c) (p : Int) : v37_0 [List.getD (layM c) 0 0, List.getD (layM c) 1 0, List.getD (layM c) 2 0, List.getD (layM c) 3 0, List.getD (layM c) 4 0, List.getD (layM c) 5 0, List.getD (layM c) 6 0, List.getD (layM c) 7 0, List.getD (layM c) 8 0, List.getD (layM c) 9 0, List.getD (layM c) 10 0, List.getD (layM c) 11 0, List.getD (layM c) 12 0, List.getD (layM c) 13 0, List.getD (layM c) 14 0, List.getD (layM c) 15 0, List.getD (layM c) 16 0, List.getD (layM c) 17 0, List.getD (layM c) 18 0, List.getD (layM c) 19 0, List.getD (layM c) 20 0, List.getD (layM c) 21 0, List.getD (layM c) 22 0, p] = v40_0 [List.getD c 0 0, List.getD c 1 0, List.getD c 2 0, List.getD c 3 0, List.getD c 4 0, List.getD c 5 0, List.getD c 6 0, List.getD c 7 0, List.getD c 8 0, List.getD c 9 0, List.getD c 10 0, p] := by
  obtain ⟨r0, r1, r2, r3, r4, r5, r6, r7, r8, r9, r10⟩ := R
  have hM := e_mul (a := i c 1) (b := i c 8 + 1) (m := 8) (n := 9) (by omega) (by omega) (by omega) (by omega)
  unfold v37_0 v40_0 
  simp only [List.getD_cons_zero, List.getD_cons_succ, layM, a11, a10, a9, a8, a7, a6, a1, a0]
  unfold i at *
  generalize c.getD 0 0 = q0 at *
  generalize c.getD 1 0 = q1 at *
  generalize c.getD 2 0 = q2 at *
  generalize c.getD 3 0 = q3 at *
  generalize c.getD 8 0 = q8 at *
  generalize c.getD 9 0 = q9 at *
  have hq : 5 * q1 * (q8 + 1) = 5 * (q1 * (q8 + 1)) := Int.mul_assoc _ _ _
  generalize q1 * (q8 + 1) = M at *
  simp (disch := omega) only [wrap_id, Int.tdiv_eq_ediv_of_nonneg, Int.tmod_eq_emod_of_nonneg, hq, Bool.cond_eq_ite, decide_eq_true_eq, Bool.not_eq_true', decide_eq_false_iff_not, Bool.or_eq_true, Bool.and_eq_true, beq_iff_eq]
  repeat' split
  all_goals try (first | omega | rfl | (simp (disch := omega) only [wrap_id, Int.tdiv_eq_ediv_of_nonneg, Int.tmod_eq_emod_of_nonneg, hq]; done) | (simp (disch := omega) only [wrap_id, Int.tdiv_eq_ediv_of_nonneg, Int.tmod_eq_emod_of_nonneg, hq]; omega))

theorem e37_1 {c : List Int} (R : Right c) (p : Int) : v37_1 [List.getD (layM c) 0 0, List.getD (layM c) 1 0, List.getD (layM c) 2 0, List.getD (layM c) 3 0, List.getD (layM c) 4 0, List.getD (layM c) 5 0, List.getD (layM c) 6 0, List.getD (layM c) 7 0, List.getD (layM c) 8 0, List.getD (layM c) 9 0, List.getD (layM c) 10 0, List.getD (layM c) 11 0, List.getD (layM c) 12 0, List.getD (layM c) 13 0, List.getD (layM c) 14 0, List.getD (layM c) 15 0, List.getD (layM c) 16 0, List.getD (layM c) 17 0, List.getD (layM c) 18 0, List.getD (layM c) 19 0, List.getD (layM c) 20 0, List.getD (layM c) 21 0, List.getD (layM c) 22 0, p] = v40_1 [List.getD c 0 0, List.getD c 1 0, List.getD c 2 0, List.getD c 3 0, List.getD c 4 0, List.getD c 5 0, List.getD c 6 0, List.getD c 7 0, List.getD c 8 0, List.getD c 9 0, List.getD c 10 0, p] := by
  obtain ⟨r0, r1, r2, r3, r4, r5, r6, r7, r8, r9, r10⟩ := R
  have hM := e_mul (a := i c 1) (b := i c 8 + 1) (m := 8) (n := 9) (by omega) (by omega) (by omega) (by omega)
  unfold v37_1 v40_1 
  simp only [List.getD_cons_zero, List.getD_cons_succ, layM, a11, a10, a9, a8, a7, a6, a1, a0]
  unfold i at *
  generalize c.getD 0 0 = q0 at *
  generalize c.getD 1 0 = q1 at *
  generalize c.getD 2 0 = q2 at *
  generalize c.getD 3 0 = q3 at *
  generalize c.getD 8 0 = q8 at *
  generalize c.getD 9 0 = q9 at *
  have hq : 5 * q1 * (q8 + 1) = 5 * (q1 * (q8 + 1)) := Int.mul_assoc _ _ _
  generalize q1 * (q8 + 1) = M at *
  simp (disch := omega) only [wrap_id, Int.tdiv_eq_ediv_of_nonneg, Int.tmod_eq_emod_of_nonneg, hq, Bool.cond_eq_ite, decide_eq_true_eq, Bool.not_eq_true', decide_eq_false_iff_not, Bool.or_eq_true, Bool.and_eq_true, beq_iff_eq]
  repeat' split
  all_goals try (first | omega | rfl | (simp (disch := omega) only [wrap_id, Int.tdiv_eq_ediv_of_nonneg, Int.tmod_eq_emod_of_nonneg, hq]; done) | (simp (disch := omega) only [wrap_id, Int.tdiv_eq_ediv_of_nonneg, Int.tmod_eq_emod_of_nonneg, hq]; omega))

theorem e37_2 {c : List Int} (R : Right c) (p : Int) : v37_2 [List.getD (layM c) 0 0, List.getD (layM c) 1 0, List.getD (layM c) 2 0, List.getD (layM c) 3 0, List.getD (layM c) 4 0, List.getD (layM c) 5 0, List.getD (layM c) 6 0, List.getD (layM c) 7 0, List.getD (layM c) 8 0, List.getD (layM c) 9 0, List.getD (layM c) 10 0, List.getD (layM c) 11 0, List.getD (layM c) 12 0, List.getD (layM c) 13 0, List.getD (layM c) 14 0, List.getD (layM c) 15 0, List.getD (layM c) 16 0, List.getD (layM c) 17 0, List.getD (layM c) 18 0, List.getD (layM c) 19 0, List.getD (layM c) 20 0, List.getD (layM c) 21 0, List.getD (layM c) 22 0, p] = v40_2 [List.getD c 0 0, List.getD c 1 0, List.getD c 2 0, List.getD c 3 0, List.getD c 4 0, List.getD c 5 0, List.getD c 6 0, List.getD c 7 0, List.getD c 8 0, List.getD c 9 0, List.getD c 10 0, p] := by
  obtain ⟨r0, r1, r2, r3, r4, r5, r6, r7, r8, r9, r10⟩ := R
  have hM := e_mul (a := i c 1) (b := i c 8 + 1) (m := 8) (n := 9) (by omega) (by omega) (by omega) (by omega)
  unfold v37_2 v40_2 
  simp only [List.getD_cons_zero, List.getD_cons_succ, layM, a11, a10, a9, a8, a7, a6, a1, a0]
  unfold i at *
  generalize c.getD 0 0 = q0 at *
  generalize c.getD 1 0 = q1 at *
  generalize c.getD 2 0 = q2 at *
  generalize c.getD 3 0 = q3 at *
  generalize c.getD 8 0 = q8 at *
  generalize c.getD 9 0 = q9 at *
  have hq : 5 * q1 * (q8 + 1) = 5 * (q1 * (q8 + 1)) := Int.mul_assoc _ _ _
  generalize q1 * (q8 + 1) = M at *
  simp (disch := omega) only [wrap_id, Int.tdiv_eq_ediv_of_nonneg, Int.tmod_eq_emod_of_nonneg, hq, Bool.cond_eq_ite, decide_eq_true_eq, Bool.not_eq_true', decide_eq_false_iff_not, Bool.or_eq_true, Bool.and_eq_true, beq_iff_eq]
  repeat' split
  all_goals try (first | omega | rfl | (simp (disch := omega) only [wrap_id, Int.tdiv_eq_ediv_of_nonneg, Int.tmod_eq_emod_of_nonneg, hq]; done) | (simp (disch := omega) only [wrap_id, Int.tdiv_eq_ediv_of_nonneg, Int.tmod_eq_emod_of_nonneg, hq]; omega))

theorem e43_0 {c : List Int} (R : Right c) (p : Int) : v43_0 [List.getD (layM c) 0 0, List.getD (layM c) 1 0, List.getD (layM c) 2 0, List.getD (layM c) 3 0, List.getD (layM c) 4 0, List.getD (layM c) 5 0, List.getD (layM c) 6 0, List.getD (layM c) 7 0, List.getD (layM c) 8 0, List.getD (layM c) 9 0, List.getD (layM c) 10 0, List.getD (layM c) 11 0, List.getD (layM c) 12 0, List.getD (layM c) 13 0, List.getD (layM c) 14 0, List.getD (layM c) 15 0, List.getD (layM c) 16 0, List.getD (layM c) 17 0, List.getD (layM c) 18 0, List.getD (layM c) 19 0, List.getD (layM c) 20 0, List.getD (layM c) 21 0, List.getD (layM c) 22 0, p] = v46_0 [List.getD c 0 0, List.getD c 1 0, List.getD c 2 0, List.getD c 3 0, List.getD c 4 0, List.getD c 5 0, List.getD c 6 0, List.getD c 7 0, List.getD c 8 0, List.getD c 9 0, List.getD c 10 0, p] := by
  obtain ⟨r0, r1, r2, r3, r4, r5, r6, r7, r8, r9, r10⟩ := R
  have hM := e_mul (a := i c 1) (b := i c 8 + 1) (m := 8) (n := 9) (by omega) (by omega) (by omega) (by omega)
  unfold v43_0 v46_0 
  simp only [List.getD_cons_zero, List.getD_cons_succ, layM, a11, a10, a9, a8, a7, a6, a1, a0]
  unfold i at *
  generalize c.getD 0 0 = q0 at *
  generalize c.getD 1 0 = q1 at *
  generalize c.getD 2 0 = q2 at *
  generalize c.getD 3 0 = q3 at *
  generalize c.getD 8 0 = q8 at *
  generalize c.getD 9 0 = q9 at *
  have hq : 5 * q1 * (q8 + 1) = 5 * (q1 * (q8 + 1)) := Int.mul_assoc _ _ _
  generalize q1 * (q8 + 1) = M at *
  simp (disch := omega) only [wrap_id, Int.tdiv_eq_ediv_of_nonneg, Int.tmod_eq_emod_of_nonneg, hq, Bool.cond_eq_ite, decide_eq_true_eq, Bool.not_eq_true', decide_eq_false_iff_not, Bool.or_eq_true, Bool.and_eq_true, beq_iff_eq]
  repeat' split
  all_goals try (first | omega | rfl | (simp (disch := omega) only [wrap_id, Int.tdiv_eq_ediv_of_nonneg, Int.tmod_eq_emod_of_nonneg, hq]; done) | (simp (disch := omega) only [wrap_id, Int.tdiv_eq_ediv_of_nonneg, Int.tmod_eq_emod_of_nonneg, hq]; omega))
end Go.Rx
