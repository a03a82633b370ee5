/- Law 'LayoutAligned': each page begins at a multiple of 32, every fourth one of 128; what is told of a user word's place leads back to it. -/
import Derived.Test.YtpgapdmmcanffaaN02h
import Derived.Test.YtpgapdmmcanffaaD02h
import Derived.Test.YtpgapdmmcanffaaRxI
namespace Go.Rx
open Go.Proofs

theorem args_conf2 {args : List V} {H : Heap} (h : ArgsOf [.el 14, .el 0, .el 0] 0 args H) : ∃ c : List Int, args = mkA [11, 0, 0] 0 c ∧ H = [] := by
  obtain ⟨c, _, rfl, _, p, _, rfl, _, n, _, rfl, _, rfl, rfl⟩ := h
  let c' : List Int := c
  let p' : Int := p
  let n' : Int := n
  exact ⟨[c'.getD 0 0, c'.getD 1 0, c'.getD 2 0, c'.getD 3 0, c'.getD 4 0, c'.getD 5 0, c'.getD 6 0, c'.getD 7 0, c'.getD 8 0, c'.getD 9 0, c'.getD 10 0, p', n'], rfl, rfl⟩

structure LayF (c L : List Int) : Prop where
  l2 : L.getD 2 0 = i c 2
  l20 : L.getD 20 0 = a9 c
  l21 : L.getD 21 0 = a10 c
  l22 : L.getD 22 0 = a11 c
  w22 : a11 c = a10 c + 32 * i c 2
  m10 : a10 c % 128 = 0
  b9 : 3 ≤ a9 c
  b10 : a9 c + 32 * i c 2 ≤ a10 c
  t10 : a10 c ≤ 100000

theorem layF {c : List Int} (R : Right c) : LayF c (layM c) := by
  obtain ⟨r0, r1, r2, r3, r4, r5, r6, r7, r8, r9, r10⟩ := R
  have hm1 : 0 ≤ i c 1 * (i c 8 + 1) := Int.mul_nonneg (by omega) (by omega)
  have hm2 : i c 1 * (i c 8 + 1) ≤ 8 * 9 := Int.mul_le_mul (by omega) (by omega) (by omega) (by omega)
  have h9 : a9 c = 3 + i c 3 + (i c 2 + 3) / 4 + 5 * i c 2 + 62 + 5 * (i c 1 * (i c 8 + 1)) + 5 * (i c 9 + 1) := rfl
  have h10 : a10 c = (a9 c + 32 * i c 2 + 127) / 128 * 128 := rfl
  exact ⟨rfl, rfl, rfl, rfl, rfl, by omega, by omega, by omega, by omega⟩

theorem u64_id {x : Int} (h0 : 0 ≤ x) (h1 : x ≤ 9223372036854775807) : IntKind.u64.wrap x = x := by rw [IntKind.wrap_u64]; omega

theorem modu {x n : Int} (h1 : 1 ≤ n) (h2 : n ≤ 9223372036854775807) : ∃ p, IntKind.i64.wrap (Int.tmod (IntKind.u64.wrap x) (IntKind.u64.wrap n)) = p ∧ 0 ≤ p ∧ p < n := by
  rw [u64_id (x := n) (by omega) h2]
  have hp := u64_pos x
  rw [Int.tmod_eq_emod_of_nonneg hp]
  have a := Int.emod_nonneg (IntKind.u64.wrap x) (show n ≠ 0 by omega)
  have b := Int.emod_lt_of_pos (IntKind.u64.wrap x) (show 0 < n by omega)
  exact ⟨_, wrap_id (by omega) (by omega), a, b⟩

theorem dfalse {p : Prop} [Decidable p] (h : ¬ p) : decide p = false := decide_eq_false h
theorem dtrue {p : Prop} [Decidable p] (h : p) : decide p = true := decide_eq_true h

theorem addr_val {L : List Int} {c : List Int} (F : LayF c L) (hr : 1 ≤ i c 2 ∧ i c 2 ≤ 256) {l0 l1 l3 l4 l5 l6 l7 l8 l9 l10 l11 l12 l13 l14 l15 l16 l17 l18 l19 l20 l22 p : Int} (h0 : 0 ≤ p) (h1 : p < i c 2) :
    v34_0 [l0, l1, L.getD 2 0, l3, l4, l5, l6, l7, l8, l9, l10, l11, l12, l13, l14, l15, l16, l17, l18, l19, l20, L.getD 21 0, l22, p] = a10 c + 32 * p := by
  obtain ⟨f2, f20, f21, f22, w, m, b9, b10, t⟩ := F
  unfold v34_0
  simp only [List.getD_cons_zero, List.getD_cons_succ, f2, f21]
  rw [dfalse (show ¬ p < 0 by omega), dfalse (show ¬ p ≥ i c 2 by omega)]
  simp (disch := omega) only [cond_false, wrap_id]
  omega

theorem place_val {L : List Int} {c : List Int} (F : LayF c L) (hr : 1 ≤ i c 2 ∧ i c 2 ≤ 256) {l0 l1 l2 l3 l4 l5 l6 l7 l8 l9 l10 l11 l12 l13 l14 l15 l16 l17 l18 l19 l20 p n a : Int} (h0 : 0 ≤ p) (h1 : p < i c 2) (h2 : 0 ≤ n) (h3 : n < 32)
    (ha : a = a10 c + 32 * p + n) :
    v37_0 [l0, l1, l2, l3, l4, l5, l6, l7, l8, l9, l10, l11, l12, l13, l14, l15, l16, l17, l18, l19, l20, L.getD 21 0, L.getD 22 0, a] = p ∧
    v37_1 [l0, l1, l2, l3, l4, l5, l6, l7, l8, l9, l10, l11, l12, l13, l14, l15, l16, l17, l18, l19, l20, L.getD 21 0, L.getD 22 0, a] = n ∧
    v37_2 [l0, l1, l2, l3, l4, l5, l6, l7, l8, l9, l10, l11, l12, l13, l14, l15, l16, l17, l18, l19, l20, L.getD 21 0, L.getD 22 0, a] = true := by
  obtain ⟨f2, f20, f21, f22, w, m, b9, b10, t⟩ := F
  unfold v37_0 v37_1 v37_2
  simp only [List.getD_cons_zero, List.getD_cons_succ, f21, f22]
  rw [dtrue (show a ≥ a10 c by omega), dtrue (show a < a11 c by omega)]
  simp (disch := omega) only [cond_true, Bool.not_true, cond_false, wrap_id, Int.tdiv_eq_ediv_of_nonneg, Int.tmod_eq_emod_of_nonneg, and_true]
  omega

theorem live_val {L : List Int} {c : List Int} (F : LayF c L) (hr : 1 ≤ i c 2 ∧ i c 2 ≤ 256) {l0 l1 l2 l3 l4 l5 l6 l7 l8 l9 l10 l11 l12 l13 l14 l15 l16 l17 l18 l19 a : Int} (h0 : a10 c ≤ a) (h1 : a < a11 c) :
    v39_0 [l0, l1, l2, l3, l4, l5, l6, l7, l8, l9, l10, l11, l12, l13, l14, l15, l16, l17, l18, l19, L.getD 20 0, L.getD 21 0, L.getD 22 0, a] = a9 c + a - a10 c := by
  obtain ⟨f2, f20, f21, f22, w, m, b9, b10, t⟩ := F
  unfold v39_0
  simp only [List.getD_cons_zero, List.getD_cons_succ, f20, f21, f22]
  rw [dtrue (show a ≥ a10 c by omega), dtrue (show a < a11 c by omega)]
  simp (disch := omega) only [cond_true, Bool.not_true, cond_false, wrap_id]

theorem bne_false' {a b : Int} (h : a = b) : (a != b) = false := by simp [h]
theorem beq_true' {a b : Int} (h : a = b) : (a == b) = true := by simp [h]

attribute [local irreducible] Loop ex exF contK roundK retK at_ bodyOf mkEnv mkA
set_option maxRecDepth 100000

theorem aligned_law : SpecOK Try.prog elTT 6 (lawS [.el 14, .el 0, .el 0]) := by
  refine spec_of_exF (cfg := cfgT 6) (cfg_ok rfl rfl rfl) sigT_ok (fn := Try.f6) (by kernel_rfl) (by kernel_rfl) (by kernel_rfl) ?_
  intro args H K h
  obtain ⟨ha, hk⟩ := h
  obtain ⟨xs, rfl, rfl⟩ := args_conf2 ha
  clear ha
  refine Eq.mpr (nf6 xs K) ⟨trivial, ?_⟩
  intro y0 y1 y2 y3 y4 y5 y6 y7 y8 y9 y10 e0 e1 e2 e3 e4 e5 e6 e7 e8 e9 e10
  have R : Right [y0, y1, y2, y3, y4, y5, y6, y7, y8, y9, y10] := by
    rw [e0, e1, e2, e3, e4, e5, e6, e7, e8, e9, e10]
    exact some_right _
  clear e0 e1 e2 e3 e4 e5 e6 e7 e8 e9 e10
  refine ⟨?_, fun hr => ?_⟩
  · intro _ y11 e11
    have F := layF R
    rw [← e11] at F
    clear e11
    have r2 : 1 ≤ y2 ∧ y2 ≤ 256 := R.h2
    refine Req_intro (by rw [u64_id (by omega) (by omega)]; simp; omega) ⟨trivial, ?_⟩
    obtain ⟨p, ep, p0, p1⟩ := modu (x := List.getD xs 11 0) (n := y2) (by omega) (by omega)
    obtain ⟨n, en, n0, n1⟩ := modu (x := List.getD xs 12 0) (n := 32) (by omega) (by omega)
    have en' : IntKind.i64.wrap (Int.tmod (IntKind.u64.wrap (List.getD xs 12 0)) 32) = n := en
    simp only [ep, en']
    intro y12 e12
    rw [addr_val F r2 p0 p1] at e12
    obtain ⟨f2, f20, f21, f22, w, m, b9, b10, t⟩ := id F
    have w' : a11 [y0, y1, y2, y3, y4, y5, y6, y7, y8, y9, y10] = a10 [y0, y1, y2, y3, y4, y5, y6, y7, y8, y9, y10] + 32 * y2 := w
    have b' : a9 [y0, y1, y2, y3, y4, y5, y6, y7, y8, y9, y10] + 32 * y2 ≤ a10 [y0, y1, y2, y3, y4, y5, y6, y7, y8, y9, y10] := b10
    rw [wrap_id (x := y12 + n) (by omega) (by omega)]
    obtain ⟨pv, nv, bv⟩ := place_val F r2 (l0 := List.getD y11 0 0) (l1 := List.getD y11 1 0) (l2 := List.getD y11 2 0) (l3 := List.getD y11 3 0) (l4 := List.getD y11 4 0) (l5 := List.getD y11 5 0) (l6 := List.getD y11 6 0) (l7 := List.getD y11 7 0) (l8 := List.getD y11 8 0) (l9 := List.getD y11 9 0) (l10 := List.getD y11 10 0) (l11 := List.getD y11 11 0) (l12 := List.getD y11 12 0) (l13 := List.getD y11 13 0) (l14 := List.getD y11 14 0) (l15 := List.getD y11 15 0) (l16 := List.getD y11 16 0) (l17 := List.getD y11 17 0) (l18 := List.getD y11 18 0) (l19 := List.getD y11 19 0) (l20 := List.getD y11 20 0) p0 p1 n0 n1 (a := y12 + n) (by omega)
    rw [pv, nv, bv]
    refine ⟨trivial, ?_⟩
    intro y13 y14 y15 e13 e14 e15
    rw [e13, e14, e15]
    have hv : ∀ y16, y16 = v38_0 [List.getD y11 0 0, List.getD y11 1 0, List.getD y11 2 0, List.getD y11 3 0, List.getD y11 4 0, List.getD y11 5 0, List.getD y11 6 0, List.getD y11 7 0, List.getD y11 8 0, List.getD y11 9 0, List.getD y11 10 0, List.getD y11 11 0, List.getD y11 12 0, List.getD y11 13 0, List.getD y11 14 0, List.getD y11 15 0, List.getD y11 16 0, List.getD y11 17 0, List.getD y11 18 0, List.getD y11 19 0, List.getD y11 20 0, List.getD y11 21 0, List.getD y11 22 0] → y16 = a10 [y0, y1, y2, y3, y4, y5, y6, y7, y8, y9, y10] := fun y16 h => h.trans f21
    have hw : ∀ y16, y16 = v15_0 [List.getD y11 0 0, List.getD y11 1 0, List.getD y11 2 0, List.getD y11 3 0, List.getD y11 4 0, List.getD y11 5 0, List.getD y11 6 0, List.getD y11 7 0, List.getD y11 8 0, List.getD y11 9 0, List.getD y11 10 0, List.getD y11 11 0, List.getD y11 12 0, List.getD y11 13 0, List.getD y11 14 0, List.getD y11 15 0, List.getD y11 16 0, List.getD y11 17 0, List.getD y11 18 0, List.getD y11 19 0, List.getD y11 20 0, List.getD y11 21 0, List.getD y11 22 0] → y16 = a11 [y0, y1, y2, y3, y4, y5, y6, y7, y8, y9, y10] := fun y16 h => h.trans f22
    rw [live_val F r2 (a := y12 + n) (by omega) (by omega), live_val F r2 (a := y12) (by omega) (by omega)]
    refine br_false (bne_false' (by rw [Int.tmod_eq_emod_of_nonneg (by omega)]; omega)) (br_intro (fun h4 => br_false (bne_false' ?_) ?_) fun _ => ?_)
    · rw [Int.tmod_eq_emod_of_nonneg (by omega)] at h4 ⊢
      simp at h4
      omega
    all_goals refine ⟨trivial, fun y16 e16 => br_false (dfalse (show ¬ y12 < y16 by rw [hv _ e16]; omega)) (br_true rfl (br_true (beq_true' rfl) (br_true (beq_true' rfl) (⟨trivial, fun y17 e17 => ⟨trivial, fun y18 e18 => br_true (beq_true' (by rw [e17, e18, wrap_id (by omega) (by omega)]; omega)) ⟨trivial, fun y19 e19 => br_true (dtrue (by rw [hw _ e19]; omega)) ⟨trivial, hk _⟩⟩⟩⟩))))⟩
  · rw [right_iff.2 R] at hr
    cases hr
end Go.Rx
