/- A list's head: the program's layout and the reference's tell the same. -/
import Derived.Test.YtpgapdmmcanffaaD02k
namespace Go.Rx
open Go.Proofs
set_option maxRecDepth 100000

theorem p23_ok (c0 c1 c2 c3 c4 c5 c6 c7 c8 c9 c10 p q : Int) : p23 [c0, c1, c2, c3, c4, c5, c6, c7, c8, c9, c10, p, q] := by
  unfold p23
  simp only [List.getD_cons_zero, List.getD_cons_succ, decide_eq_false_iff_not, decide_eq_true_eq]
  intro h0 h1 h2 h3 h4 h5 h6 h7
  simp (disch := omega) only [wrap_id] at h7
  omega

theorem sl0 : (32 : Int) / 2 ^ Min.min (Int.toNat 0) (IntKind.bits IntKind.i64) = 32 := by decide
theorem sl1 : (32 : Int) / 2 ^ Min.min (Int.toNat 1) (IntKind.bits IntKind.i64) = 16 := by decide
theorem sl2 : (32 : Int) / 2 ^ Min.min (Int.toNat 2) (IntKind.bits IntKind.i64) = 8 := by decide
theorem sl3 : (32 : Int) / 2 ^ Min.min (Int.toNat 3) (IntKind.bits IntKind.i64) = 4 := by decide
theorem sl4 : (32 : Int) / 2 ^ Min.min (Int.toNat 4) (IntKind.bits IntKind.i64) = 2 := by decide

theorem e22_0 {c : List Int} (R : Right c) (p q : Int) : v22_0 [List.getD (layM c) 0 0, List.getD (layM c) 1 0, List.getD (layM c) 2 0, List.getD (layM c) 3 0, List.getD (layM c) 4 0, List.getD (layM c) 5 0, List.getD (layM c) 6 0, List.getD (layM c) 7 0, List.getD (layM c) 8 0, List.getD (layM c) 9 0, List.getD (layM c) 10 0, List.getD (layM c) 11 0, List.getD (layM c) 12 0, List.getD (layM c) 13 0, List.getD (layM c) 14 0, List.getD (layM c) 15 0, List.getD (layM c) 16 0, List.getD (layM c) 17 0, List.getD (layM c) 18 0, List.getD (layM c) 19 0, List.getD (layM c) 20 0, List.getD (layM c) 21 0, List.getD (layM c) 22 0, p, q] = v23_0 [List.getD c 0 0, List.getD c 1 0, List.getD c 2 0, List.getD c 3 0, List.getD c 4 0, List.getD c 5 0, List.getD c 6 0, List.getD c 7 0, List.getD c 8 0, List.getD c 9 0, List.getD c 10 0, p, q] := by
  obtain ⟨r0, r1, r2, r3, r4, r5, r6, r7, r8, r9, r10⟩ := R
  unfold v22_0 v23_0
  simp only [List.getD_cons_zero, List.getD_cons_succ, layM, a11, a10, a9, a8, a7, a6, a1, a0]
  unfold i at *
  generalize c.getD 2 0 = q2 at *
  generalize c.getD 3 0 = q3 at *
  have hz : (q2 == 0) = false := by simp; omega
  rw [hz]
  simp only [cond_false]
  by_cases hp0 : p < 0
  · rw [decide_eq_true hp0]; rfl
  by_cases hp5 : p ≥ 5
  · rw [decide_eq_false hp0, decide_eq_true hp5, decide_eq_true (show p > 4 by omega)]; rfl
  rw [decide_eq_false hp0, decide_eq_false hp5, decide_eq_false (show ¬ p > 4 by omega)]
  simp only [cond_false]
  have hp : p = 0 ∨ p = 1 ∨ p = 2 ∨ p = 3 ∨ p = 4 := by omega
  rcases hp with rfl | rfl | rfl | rfl | rfl
  all_goals
    simp only [sl0, sl1, sl2, sl3, sl4]
    simp (disch := omega) only [wrap_id, Int.tdiv_eq_ediv_of_nonneg]
    simp (decide := true) only [Int.reduceAdd, Int.reduceSub, Int.reduceMul, Int.reduceDiv, Int.reduceLT, decide_true, decide_false, cond_true, cond_false]
    simp (disch := omega) only [wrap_id, Int.tdiv_eq_ediv_of_nonneg, Bool.cond_eq_ite, decide_eq_true_eq, Bool.not_eq_true', decide_eq_false_iff_not]
    repeat' split
    all_goals try omega
end Go.Rx
