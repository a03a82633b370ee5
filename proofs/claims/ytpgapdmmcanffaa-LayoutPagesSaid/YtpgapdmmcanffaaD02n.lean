/- Laws 'LayoutPages' and 'LayoutWords': what the program's layout tells is as the document says. -/
import Derived.Test.YtpgapdmmcanffaaN02m
import Derived.Test.YtpgapdmmcanffaaD02i
namespace Go.Rx
open Go.Proofs

theorem args_conf3 {args : List V} {H : Heap} (h : ArgsOf [.el 14, .el 0, .el 0, .el 0] 0 args H) : ∃ c : List Int, args = mkA [11, 0, 0, 0] 0 c ∧ H = [] := by
  obtain ⟨c, _, rfl, _, p, _, rfl, _, n, _, rfl, _, q, _, rfl, _, rfl, rfl⟩ := h
  let c' : List Int := c
  let p' : Int := p
  let n' : Int := n
  let q' : Int := q
  exact ⟨[c'.getD 0 0, c'.getD 1 0, c'.getD 2 0, c'.getD 3 0, c'.getD 4 0, c'.getD 5 0, c'.getD 6 0, c'.getD 7 0, c'.getD 8 0, c'.getD 9 0, c'.getD 10 0, p', n', q'], rfl, rfl⟩

theorem z37 (a : Int) : v37_2 [0, 0, 0, 0, 0, 0, 0, 0, 0, 0, 0, 0, 0, 0, 0, 0, 0, 0, 0, 0, 0, 0, 0, a] = false := by
  unfold v37_2
  simp only [List.getD_cons_zero, List.getD_cons_succ]
  by_cases h : a < 0
  · simp [h, Int.not_le.2 h]
  · simp [h, Int.not_lt.1 h]

theorem z43 (a : Int) : v43_0 [0, 0, 0, 0, 0, 0, 0, 0, 0, 0, 0, 0, 0, 0, 0, 0, 0, 0, 0, 0, 0, 0, 0, a] = 0 := by
  unfold v43_0
  simp only [List.getD_cons_zero, List.getD_cons_succ]
  by_cases h : a < 0
  · simp [h, Int.not_le.2 h]
  · simp [h, Int.not_lt.1 h]

theorem z20 (a : Int) : v20_0 [0, 0, 0, 0, 0, 0, 0, 0, 0, 0, 0, 0, 0, 0, 0, 0, 0, 0, 0, 0, 0, 0, 0, a] = 0 := by
  unfold v20_0 v18_0
  simp only [List.getD_cons_zero, List.getD_cons_succ]
  by_cases h : a < 0
  · simp [h, Int.not_le.2 h]
  · simp [h, Int.not_lt.1 h]

theorem z24 (a : Int) : v24_0 [0, 0, 0, 0, 0, 0, 0, 0, 0, 0, 0, 0, 0, 0, 0, 0, 0, 0, 0, 0, 0, 0, 0, a] = 0 := by
  unfold v24_0
  simp only [List.getD_cons_zero, List.getD_cons_succ]
  by_cases h : a < 0
  · simp [h, Int.not_le.2 h]
  · simp [h, Int.not_lt.1 h]

theorem z39 (a : Int) : v39_0 [0, 0, 0, 0, 0, 0, 0, 0, 0, 0, 0, 0, 0, 0, 0, 0, 0, 0, 0, 0, 0, 0, 0, a] = 0 := by
  unfold v39_0
  simp only [List.getD_cons_zero, List.getD_cons_succ]
  by_cases h : a < 0
  · simp [h, Int.not_le.2 h]
  · simp [h, Int.not_lt.1 h]

theorem z34 (a : Int) : v34_0 [0, 0, 0, 0, 0, 0, 0, 0, 0, 0, 0, 0, 0, 0, 0, 0, 0, 0, 0, 0, 0, 0, 0, a] = 0 := by
  unfold v34_0
  simp only [List.getD_cons_zero, List.getD_cons_succ]
  by_cases h : a < 0
  · simp [h, Int.not_le.2 h]
  · simp [h, Int.not_lt.1 h]

theorem z45 (a : Int) : v45_0 [0, 0, 0, 0, 0, 0, 0, 0, 0, 0, 0, 0, 0, 0, 0, 0, 0, 0, 0, 0, 0, 0, 0, a] = 0 := by
  unfold v45_0
  simp only [List.getD_cons_zero, List.getD_cons_succ]
  by_cases h : a < 0
  · simp [h, Int.not_le.2 h]
  · simp [h, Int.not_lt.1 h]

theorem z22 (a b : Int) : v22_0 [0, 0, 0, 0, 0, 0, 0, 0, 0, 0, 0, 0, 0, 0, 0, 0, 0, 0, 0, 0, 0, 0, 0, a, b] = 0 := rfl
theorem z44 (a b : Int) : v44_0 [0, 0, 0, 0, 0, 0, 0, 0, 0, 0, 0, 0, 0, 0, 0, 0, 0, 0, 0, 0, 0, 0, 0, a, b] = 0 := rfl

theorem not_beq_true {a b : Bool} (h : a = b) : (!a == b) = false := by subst h; cases a <;> rfl

attribute [local irreducible] Loop ex exF contK roundK retK at_ bodyOf mkEnv mkA
set_option maxRecDepth 100000

theorem pages_law : SpecOK Try.prog elTT 4 (lawS [.el 14, .el 0, .el 0, .el 0]) := by
  refine spec_of_exF (cfg := cfgU 4) (cfg_ok rfl rfl rfl) sigU_ok (fn := Try.f4) (by kernel_rfl) (by kernel_rfl) (by kernel_rfl) ?_
  intro args H K h
  obtain ⟨ha, hk⟩ := h
  obtain ⟨xs, rfl, rfl⟩ := args_conf3 ha
  clear ha
  refine Eq.mpr (nf4 xs K) ⟨trivial, ?_⟩
  intro y0 y1 y2 y3 y4 y5 y6 y7 y8 y9 y10 e0 e1 e2 e3 e4 e5 e6 e7 e8 e9 e10
  have R : Right [y0, y1, y2, y3, y4, y5, y6, y7, y8, y9, y10] := by
    rw [e0, e1, e2, e3, e4, e5, e6, e7, e8, e9, e10]
    exact some_right _
  clear e0 e1 e2 e3 e4 e5 e6 e7 e8 e9 e10
  refine ⟨?_, fun hr => ?_⟩
  · intro _ y11 e11
    subst e11
    have r2 : 1 ≤ y2 ∧ y2 ≤ 256 := R.h2
    have r3 : 1 ≤ y3 ∧ y3 ≤ 64 := R.h3
    have hn0 : Int.NonNeg (y2 - 0) := show (0 : Int) ≤ y2 by omega
    have hn1 : Int.NonNeg (1099511627776 - y2) := show y2 ≤ 1099511627776 by omega
    have hz : (!y3 == 0) = true := by simp; omega
    exact ⟨⟨hn0, hn1⟩, fun y e => ⟨trivial, fun y' e' => br_false (bne_false' ((e.trans (e18_0 R)).trans e'.symm)) (⟨⟨hn0, hn1⟩, fun y e => ⟨trivial, fun y' e' => br_false (bne_false' ((e.trans (e20_0 R _)).trans e'.symm)) (⟨fun _ h _ => decide_eq_true (Int.not_lt.1 (of_decide_eq_false h)), fun y e => ⟨p23_ok y0 y1 y2 y3 y4 y5 y6 y7 y8 y9 y10 (xs.getD 12 0) (xs.getD 13 0), fun y' e' => br_false (bne_false' ((e.trans (e22_0 R _ _)).trans e'.symm)) (⟨trivial, fun y e => ⟨trivial, fun y' e' => br_true (beq_true' ((e.trans (e24_0 R _)).trans e'.symm)) (⟨trivial, fun y e => ⟨trivial, fun y' e' => br_true (beq_true' ((e.trans (e26_0 R _)).trans e'.symm)) (⟨trivial, fun y e => ⟨trivial, fun y' e' => br_true (beq_true' ((e.trans (e28_0 R _)).trans e'.symm)) (⟨trivial, fun y e => ⟨trivial, fun y' e' => br_true (beq_true' ((e.trans (e30_0 R _)).trans e'.symm)) (⟨trivial, fun y e => ⟨trivial, fun y' e' => br_true (beq_true' ((e.trans (e32_0 R _)).trans e'.symm)) (⟨trivial, fun y e => ⟨trivial, fun y' e' => br_true (beq_true' ((e.trans (e34_0 R _)).trans e'.symm)) (⟨trivial, hk _⟩)⟩⟩)⟩⟩)⟩⟩)⟩⟩)⟩⟩)⟩⟩)⟩⟩)⟩⟩)⟩⟩
  · rw [right_iff.2 R] at hr
    cases hr

theorem words_law : SpecOK Try.prog elTT 7 (lawS [.el 14, .el 0, .el 0, .el 0]) := by
  refine spec_of_exF (cfg := cfgU 7) (cfg_ok rfl rfl rfl) sigU_ok (fn := Try.f7) (by kernel_rfl) (by kernel_rfl) (by kernel_rfl) ?_
  intro args H K h
  obtain ⟨ha, hk⟩ := h
  obtain ⟨xs, rfl, rfl⟩ := args_conf3 ha
  clear ha
  refine Eq.mpr (nf7 xs K) ⟨trivial, ?_⟩
  intro y0 y1 y2 y3 y4 y5 y6 y7 y8 y9 y10 e0 e1 e2 e3 e4 e5 e6 e7 e8 e9 e10
  have R : Right [y0, y1, y2, y3, y4, y5, y6, y7, y8, y9, y10] := by
    rw [e0, e1, e2, e3, e4, e5, e6, e7, e8, e9, e10]
    exact some_right _
  clear e0 e1 e2 e3 e4 e5 e6 e7 e8 e9 e10
  refine ⟨?_, fun hr => ?_⟩
  · intro _ y11 e11
    subst e11
    have r2 : 1 ≤ y2 ∧ y2 ≤ 256 := R.h2
    have r3 : 1 ≤ y3 ∧ y3 ≤ 64 := R.h3
    have hn0 : Int.NonNeg (y2 - 0) := show (0 : Int) ≤ y2 by omega
    have hn1 : Int.NonNeg (1099511627776 - y2) := show y2 ≤ 1099511627776 by omega
    have hz : (!y3 == 0) = true := by simp; omega
    exact ⟨trivial, fun y12 y13 y14 p0 p1 p2 => ⟨trivial, fun y15 y16 y17 q0 q1 q2 => ⟨trivial, fun y e => ⟨trivial, fun y' e' => br_false (bne_false' ((e.trans (e15_0 R)).trans e'.symm)) (⟨trivial, fun y e => ⟨trivial, fun y' e' => br_false (bne_false' ((e.trans (e38_0 R)).trans e'.symm)) (br_false (bne_false' ((p0.trans (e37_0 R _)).trans q0.symm)) (br_false (bne_false' ((p1.trans (e37_1 R _)).trans q1.symm)) (br_false (not_beq_true ((p2.trans (e37_2 R _)).trans q2.symm)) (⟨trivial, fun y22 y23 y24 e22 e23 e24 => br_false (e24.trans (z37 _)) (⟨trivial, fun y25 e25 => have hw25 : y25 = 0 := e25.trans rfl; ⟨trivial, fun y26 e26 => have hw26 : y26 = 0 := e26.trans rfl; ⟨⟨Int.le_refl 0, (show (0 : Int) ≤ 1099511627776 by decide)⟩, fun y27 e27 => have hw27 : y27 = 0 := e27.trans rfl; ⟨fun h h' => absurd (Int.not_lt.1 (of_decide_eq_false h)) (of_decide_eq_false h'), fun y28 e28 => have hw28 : y28 = 0 := e28.trans (z43 _); ⟨⟨Int.le_refl 0, (show (0 : Int) ≤ 1099511627776 by decide)⟩, fun y29 e29 => have hw29 : y29 = 0 := e29.trans (z20 _); ⟨trivial, fun y30 e30 => have hw30 : y30 = 0 := e30.trans (z24 _); ⟨fun h => Bool.noConfusion h, fun y31 e31 => have hw31 : y31 = 0 := e31.trans (z22 _ _); ⟨trivial, fun y32 e32 => have hw32 : y32 = 0 := e32.trans (z44 _ _); ⟨trivial, fun y33 e33 => have hw33 : y33 = 0 := e33.trans (z45 _); ⟨trivial, fun y34 e34 => have hw34 : y34 = 0 := e34.trans (z39 _); ⟨trivial, fun y35 e35 => have hw35 : y35 = 0 := e35.trans (z34 _); br_false (bne_false' (by rw [hw25, hw26, hw27, hw28, hw29, hw30, hw31, hw32, hw33, hw34, hw35]; rfl)) (⟨fun _ _ => hz, fun y e => ⟨fun _ _ => hz, fun y' e' => br_true (beq_true' ((e.trans (e43_0 R _)).trans e'.symm)) (⟨trivial, fun y e => ⟨trivial, fun y' e' => br_true (beq_true' ((e.trans (e44_0 R _ _)).trans e'.symm)) (⟨trivial, fun y e => ⟨trivial, fun y' e' => br_true (beq_true' ((e.trans (e45_0 R _)).trans e'.symm)) (⟨trivial, fun y e => ⟨trivial, fun y' e' => br_true (beq_true' ((e.trans (e39_0 R _)).trans e'.symm)) (⟨trivial, hk _⟩)⟩⟩)⟩⟩)⟩⟩)⟩⟩)⟩⟩⟩⟩⟩⟩⟩⟩⟩⟩⟩)⟩))))⟩⟩)⟩⟩⟩⟩
  · rw [right_iff.2 R] at hr
    cases hr
end Go.Rx
