/- Room: what the program tells of it, and the reference, plainly. -/
import Derived.Test.YtpgapdmmcanffaaN29f
import Derived.Test.YtpgapdmmcanffaaD02i
namespace Go.Rx
open Go.Proofs
set_option maxRecDepth 100000

theorem args_room {args : List V} {H : Heap} (h : ArgsOf [.el 14, .el 10, .el 0, .el 0] 0 args H) : ∃ c : List Int, args = mkA [11, 7, 0, 0] 0 c ∧ H = [] ∧ (-9223372036854775808 ≤ c.getD 18 0 ∧ c.getD 18 0 ≤ 9223372036854775807) ∧ (-9223372036854775808 ≤ c.getD 19 0 ∧ c.getD 19 0 ≤ 9223372036854775807) := by
  obtain ⟨c, _, rfl, _, s, _, rfl, _, n, _, rfl, hn, q, _, rfl, hq, rfl, rfl⟩ := h
  let c' : List Int := c
  let s' : List Int := s
  let n' : Int := n
  let q' : Int := q
  have h1 := hn .i64 n (by show Value.int .i64 n ∈ [i64 n]; simp)
  have h2 := hq .i64 q (by show Value.int .i64 q ∈ [i64 q]; simp)
  refine ⟨[c'.getD 0 0, c'.getD 1 0, c'.getD 2 0, c'.getD 3 0, c'.getD 4 0, c'.getD 5 0, c'.getD 6 0, c'.getD 7 0, c'.getD 8 0, c'.getD 9 0, c'.getD 10 0, s'.getD 0 0, s'.getD 1 0, s'.getD 2 0, s'.getD 3 0, s'.getD 4 0, s'.getD 5 0, s'.getD 6 0, n', q'], rfl, rfl, ?_, ?_⟩
  · exact bounds_i64 h1
  · exact bounds_i64 h2

theorem aligned_eq (a : Int) : v89_0 [a] = v91_0 [a] := rfl
theorem of_eq (a : Int) : v90_0 [a] = v92_0 [a] := rfl
theorem pg_eq (a : Int) : v60_0 [a] = v93_0 [a] := rfl

theorem of_nonneg {a : Int} (h : a ≤ 16) : 0 ≤ v92_0 [a] := by
  rw [← of_eq]
  unfold v90_0
  simp only [List.getD_cons_zero]
  rw [dtrue (show 16 ≥ a by omega)]
  cases decide (1 ≥ a) <;> cases decide (2 ≥ a) <;> cases decide (4 ≥ a) <;> cases decide (8 ≥ a) <;> decide

theorem pages_val {n : Int} (h1 : 1 ≤ n) (h2 : n ≤ 9223372036854775807) : v60_0 [n] = (n - 1) / 32 + 1 := by
  unfold v60_0
  simp only [List.getD_cons_zero]
  rw [dfalse (show ¬ n < 1 by omega)]
  simp (disch := omega) only [cond_false, wrap_id, Int.tdiv_eq_ediv_of_nonneg]

theorem ite_max (a b : Int) : (if b > a then b else a) = max a b := by rw [Int.max_def]; split <;> split <;> omega
theorem ite_min (a b : Int) : (if b < a then b else a) = min a b := by rw [Int.min_def]; split <;> split <;> omega

theorem least_eq (n al : Int) (hn : n ≤ 9223372036854775807) : v50_0 [n, al] = v51_0 [n, al] ∧ v50_1 [n, al] = v51_1 [n, al] := by
  unfold v50_0 v50_1 v51_0 v51_1 v81_1 v81_2 v81_3 v82_0 v82_1 v82_2 v82_3
  simp only [List.getD_cons_zero, List.getD_cons_succ, aligned_eq, ite_max, pg_eq]
  by_cases h0 : n < 0
  · rw [dtrue h0]; first | exact ⟨rfl, rfl⟩ | exact ⟨rfl, trivial⟩
  rw [dfalse h0]
  cases v91_0 [al] with
  | false => first | exact ⟨rfl, rfl⟩ | exact ⟨rfl, trivial⟩
  | true =>
    simp only [Bool.not_true, cond_false, show ((0 : Int) != 0) = false from rfl]
    by_cases hm : max n al ≤ 16
    · rw [dtrue hm, dtrue (show n ≤ 16 by omega), dtrue (show al ≤ 16 by omega)]
      have a1 := of_nonneg (a := n) (by omega)
      have a2 := of_nonneg (a := al) (by omega)
      simp only [cond_true]
      rw [dtrue (show max (v92_0 [n]) (v92_0 [al]) ≥ 0 by omega)]
      first | exact ⟨rfl, rfl⟩ | exact ⟨rfl, trivial⟩
    · rw [dfalse hm]
      have hp : v93_0 [max n 1] = (max n 1 - 1) / 32 + 1 := by rw [← pg_eq]; exact pages_val (by omega) (by omega)
      simp only [cond_false]
      have hne : (v93_0 [max n 1] == 0) = false := by rw [hp]; simp; omega
      rw [hne]
      by_cases h1 : n ≤ 16
      · rw [dtrue h1, dfalse (show ¬ al ≤ 16 by omega)]
        first | exact ⟨rfl, rfl⟩ | exact ⟨rfl, trivial⟩
      · rw [dfalse h1]
        first | exact ⟨rfl, rfl⟩ | exact ⟨rfl, trivial⟩

theorem e54_0 {c : List Int} (s0 s1 s2 s3 s4 s5 s6 : Int) : v54_0 [List.getD (layM c) 0 0, List.getD (layM c) 1 0, List.getD (layM c) 2 0, List.getD (layM c) 3 0, List.getD (layM c) 4 0, List.getD (layM c) 5 0, List.getD (layM c) 6 0, List.getD (layM c) 7 0, List.getD (layM c) 8 0, List.getD (layM c) 9 0, List.getD (layM c) 10 0, List.getD (layM c) 11 0, List.getD (layM c) 12 0, List.getD (layM c) 13 0, List.getD (layM c) 14 0, List.getD (layM c) 15 0, List.getD (layM c) 16 0, List.getD (layM c) 17 0, List.getD (layM c) 18 0, List.getD (layM c) 19 0, List.getD (layM c) 20 0, List.getD (layM c) 21 0, List.getD (layM c) 22 0, s0, s1, s2, s3, s4, s5, s6] = v55_0 [List.getD c 0 0, List.getD c 1 0, List.getD c 2 0, List.getD c 3 0, List.getD c 4 0, List.getD c 5 0, List.getD c 6 0, List.getD c 7 0, List.getD c 8 0, List.getD c 9 0, List.getD c 10 0, s0, s1, s2, s3, s4, s5, s6] := rfl

theorem may_val {c : List Int} (s0 s1 s2 s3 s4 s5 s6 n al : Int) : v56_0 [List.getD (layM c) 0 0, List.getD (layM c) 1 0, List.getD (layM c) 2 0, List.getD (layM c) 3 0, List.getD (layM c) 4 0, List.getD (layM c) 5 0, List.getD (layM c) 6 0, List.getD (layM c) 7 0, List.getD (layM c) 8 0, List.getD (layM c) 9 0, List.getD (layM c) 10 0, List.getD (layM c) 11 0, List.getD (layM c) 12 0, List.getD (layM c) 13 0, List.getD (layM c) 14 0, List.getD (layM c) 15 0, List.getD (layM c) 16 0, List.getD (layM c) 17 0, List.getD (layM c) 18 0, List.getD (layM c) 19 0, List.getD (layM c) 20 0, List.getD (layM c) 21 0, List.getD (layM c) 22 0, s0, s1, s2, s3, s4, s5, s6, n, al] =
    (bif (v50_1 [n, al] != 0) then false else (bif decide (v50_0 [n, al] > c.getD 2 0) then true else decide (v55_0 [List.getD c 0 0, List.getD c 1 0, List.getD c 2 0, List.getD c 3 0, List.getD c 4 0, List.getD c 5 0, List.getD c 6 0, List.getD c 7 0, List.getD c 8 0, List.getD c 9 0, List.getD c 10 0, s0, s1, s2, s3, s4, s5, s6] ≤ IntKind.i64.wrap (IntKind.i64.wrap (s6 + 1) * IntKind.i64.wrap (v50_0 [n, al] - 1))))) := rfl

theorem e56_0 {c : List Int} (s0 s1 s2 s3 s4 s5 s6 n al : Int) (hn : n ≤ 9223372036854775807) : v56_0 [List.getD (layM c) 0 0, List.getD (layM c) 1 0, List.getD (layM c) 2 0, List.getD (layM c) 3 0, List.getD (layM c) 4 0, List.getD (layM c) 5 0, List.getD (layM c) 6 0, List.getD (layM c) 7 0, List.getD (layM c) 8 0, List.getD (layM c) 9 0, List.getD (layM c) 10 0, List.getD (layM c) 11 0, List.getD (layM c) 12 0, List.getD (layM c) 13 0, List.getD (layM c) 14 0, List.getD (layM c) 15 0, List.getD (layM c) 16 0, List.getD (layM c) 17 0, List.getD (layM c) 18 0, List.getD (layM c) 19 0, List.getD (layM c) 20 0, List.getD (layM c) 21 0, List.getD (layM c) 22 0, s0, s1, s2, s3, s4, s5, s6, n, al] = v57_0 [List.getD c 0 0, List.getD c 1 0, List.getD c 2 0, List.getD c 3 0, List.getD c 4 0, List.getD c 5 0, List.getD c 6 0, List.getD c 7 0, List.getD c 8 0, List.getD c 9 0, List.getD c 10 0, s0, s1, s2, s3, s4, s5, s6, n, al] := by
  rw [may_val]
  unfold v57_0
  obtain ⟨h1, h2⟩ := least_eq n al hn
  simp only [List.getD_cons_zero, List.getD_cons_succ, h1, h2]

theorem e58_0 {c : List Int} (s0 s1 s2 s3 s4 s5 s6 : Int) : v58_0 [List.getD (layM c) 0 0, List.getD (layM c) 1 0, List.getD (layM c) 2 0, List.getD (layM c) 3 0, List.getD (layM c) 4 0, List.getD (layM c) 5 0, List.getD (layM c) 6 0, List.getD (layM c) 7 0, List.getD (layM c) 8 0, List.getD (layM c) 9 0, List.getD (layM c) 10 0, List.getD (layM c) 11 0, List.getD (layM c) 12 0, List.getD (layM c) 13 0, List.getD (layM c) 14 0, List.getD (layM c) 15 0, List.getD (layM c) 16 0, List.getD (layM c) 17 0, List.getD (layM c) 18 0, List.getD (layM c) 19 0, List.getD (layM c) 20 0, List.getD (layM c) 21 0, List.getD (layM c) 22 0, s0, s1, s2, s3, s4, s5, s6] = v59_0 [s0, s1, s2, s3, s4, s5, s6] := rfl

/-- What stats that may be are. -/
theorem stats_of {s0 s1 s2 s3 s4 s5 s6 : Int} (h : v52_0 [s0, s1, s2, s3, s4, s5, s6] = true) : 0 ≤ s2 ∧ 0 ≤ s3 ∧ 0 ≤ s6 ∧ s6 ≤ 1099511627776 ∧ s2 ≤ 35184372088832 ∧ s3 ≤ 35184372088832 ∧ s4 = 32 * s6 - s2 - s3 := by
  unfold v52_0 at h
  simp only [List.getD_cons_zero, List.getD_cons_succ, ite_min] at h
  simp only [Bool.cond_eq_ite] at h
  repeat' (split at h)
  all_goals first | (cases h; done) | skip
  all_goals simp only [decide_eq_true_eq, Bool.not_eq_true, decide_eq_false_iff_not] at *
  all_goals
    simp (disch := omega) only [wrap_id] at *
    simp at h
    omega

theorem open_val {c : List Int} {s0 s1 s2 s3 s4 s5 s6 : Int} (R : Right c) (h0 : 0 ≤ s6) (h1 : s6 ≤ 1099511627776) : v55_0 [List.getD c 0 0, List.getD c 1 0, List.getD c 2 0, List.getD c 3 0, List.getD c 4 0, List.getD c 5 0, List.getD c 6 0, List.getD c 7 0, List.getD c 8 0, List.getD c 9 0, List.getD c 10 0, s0, s1, s2, s3, s4, s5, s6] = max 0 (c.getD 2 0 - s6) := by
  have r2 : 1 ≤ c.getD 2 0 ∧ c.getD 2 0 ≤ 256 := R.h2
  unfold v55_0
  simp only [List.getD_cons_zero, List.getD_cons_succ, ite_max]
  rw [wrap_id (by omega) (by omega)]

theorem least_small {n : Int} (h0 : 0 ≤ n) (h1 : n < 17) : v50_0 [n, 1] = 1 ∧ v50_1 [n, 1] = 0 := by
  unfold v50_0 v50_1 v81_1 v81_2 v81_3
  simp only [List.getD_cons_zero, List.getD_cons_succ, ite_max]
  rw [dfalse (show ¬ n < 0 by omega), dtrue (show max n 1 ≤ 16 by omega)]
  have : v89_0 [1] = true := rfl
  rw [this]
  exact ⟨rfl, rfl⟩

theorem least_big {n : Int} (h0 : 17 ≤ n) (h1 : n ≤ 9223372036854775807) : v50_0 [n, 1] = (n - 1) / 32 + 1 ∧ v50_1 [n, 1] = 0 := by
  unfold v50_0 v50_1 v81_1 v81_2 v81_3
  simp only [List.getD_cons_zero, List.getD_cons_succ, ite_max]
  rw [dfalse (show ¬ n < 0 by omega), dfalse (show ¬ max n 1 ≤ 16 by omega)]
  have : v89_0 [1] = true := rfl
  rw [this]
  have hp : v60_0 [max n 1] = (n - 1) / 32 + 1 := by rw [pages_val (by omega) (by omega)]; congr 2; omega
  have hw : IntKind.i64.wrap (Int.tdiv 1 32) = 0 := by decide
  simp only [Bool.not_true, cond_false, hp, hw, show ((0 : Int) != 0) = false from rfl]
  have hne : ((n - 1) / 32 + 1 == 0) = false := by simp; omega
  rw [hne]
  refine ⟨?_, trivial⟩
  have : max (1 : Int) 0 = 1 := by decide
  rw [this]
  simp (disch := omega) only [cond_false, wrap_id]
  omega
end Go.Rx
