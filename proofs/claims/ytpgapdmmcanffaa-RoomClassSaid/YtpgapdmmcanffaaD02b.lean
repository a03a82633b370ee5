import Derived.Test.YtpgapdmmcanffaaN02b
namespace Go.Rx
open Go.Proofs
attribute [local irreducible] Loop ex exF contK roundK retK at_ bodyOf mkEnv mkA

theorem sig12_ok : ∀ g s, sig12 g = some s → SpecOK Try.prog elTT g s := by
  intro g s hs
  unfold sig12 at hs
  split at hs
  · injection hs with hs; subst hs; exact check_ok
  · injection hs with hs; subst hs; exact chunks_ok
  · cases hs

theorem btw_iff {n lo hi : Int} : btw n lo hi = true ↔ lo ≤ n ∧ n ≤ hi := by simp [btw]

structure Right (c : List Int) : Prop where
  h0 : 1 ≤ i c 0 ∧ i c 0 ≤ 64
  h1 : 1 ≤ i c 1 ∧ i c 1 ≤ 8
  h2 : 1 ≤ i c 2 ∧ i c 2 ≤ 256
  h3 : 1 ≤ i c 3 ∧ i c 3 ≤ 64
  h4 : 0 ≤ i c 4 ∧ i c 4 ≤ 16
  h5 : 0 ≤ i c 5 ∧ i c 5 ≤ 64
  h6 : 1 ≤ i c 6 ∧ i c 6 ≤ 1099511627776
  h7 : 1 ≤ i c 7 ∧ i c 7 ≤ 8
  h8 : 0 ≤ i c 8 ∧ i c 8 ≤ 8
  h9 : 0 ≤ i c 9 ∧ i c 9 ≤ 16
  h10 : 1 ≤ i c 10 ∧ i c 10 ≤ 8

theorem right_iff {c : List Int} : rightM c = true ↔ Right c := by
  unfold rightM
  simp only [Bool.and_eq_true, btw_iff]
  constructor
  · rintro ⟨a, b, c, d, e, f, g, h, j, k, l⟩; exact ⟨a, b, c, d, e, f, g, h, j, k, l⟩
  · rintro ⟨a, b, c, d, e, f, g, h, j, k, l⟩; exact ⟨a, b, c, d, e, f, g, h, j, k, l⟩

theorem of_ok : SpecOK Try.prog elTT 12 (fS2 [11] rightM (fun c => .tup [layV c, vi 0]) (fun _ => .tup [lay0, vi 2])) :=
  fS2_ok (cfg := cfg12) (cfg_ok rfl rfl rfl) sig12_ok (fn := Try.f12) (by kernel_rfl) (by kernel_rfl) (by kernel_rfl) fun xs K h1 h2 => Eq.mpr (nf12 xs K) (by
    refine ⟨trivial, ?_⟩
    have e : rightM [List.getD xs 0 0, List.getD xs 1 0, List.getD xs 2 0, List.getD xs 3 0, List.getD xs 4 0, List.getD xs 5 0, List.getD xs 6 0, List.getD xs 7 0, List.getD xs 8 0, List.getD xs 9 0, List.getD xs 10 0] = rightM xs := rfl
    rw [e]
    cases hr : rightM xs with
    | false => exact h2 hr
    | true =>
      refine br_false rfl ?_
      have R := right_iff.1 hr
      have hk := h1 hr
      obtain ⟨r0, r1, r2, r3, r4, r5, r6, r7, r8, r9, r10⟩ := R
      refine ⟨⟨r2.1 |> fun h => (show 0 ≤ i xs 2 by omega), (show i xs 2 ≤ 1099511627776 by omega)⟩, ?_⟩
      have hm1 : 0 ≤ i xs 1 * (i xs 8 + 1) := Int.mul_nonneg (by omega) (by omega)
      have hm2 : i xs 1 * (i xs 8 + 1) ≤ 8 * 9 := Int.mul_le_mul (by omega) (by omega) (by omega) (by omega)
      unfold layV icV layM a11 a10 a9 a8 a7 a6 a1 a0 at hk
      unfold i at *
      generalize hq0 : xs.getD 0 0 = q0 at *
      generalize hq1 : xs.getD 1 0 = q1 at *
      generalize hq2 : xs.getD 2 0 = q2 at *
      generalize hq3 : xs.getD 3 0 = q3 at *
      generalize hq4 : xs.getD 4 0 = q4 at *
      generalize hq5 : xs.getD 5 0 = q5 at *
      generalize hq6 : xs.getD 6 0 = q6 at *
      generalize hq7 : xs.getD 7 0 = q7 at *
      generalize hq8 : xs.getD 8 0 = q8 at *
      generalize hq9 : xs.getD 9 0 = q9 at *
      generalize hq10 : xs.getD 10 0 = q10 at *
      have em : q1 * 5 * (q8 + 1) = 5 * (q1 * (q8 + 1)) := by rw [Int.mul_comm q1 5, Int.mul_assoc]
      generalize hM : q1 * (q8 + 1) = M at *
      simp (disch := omega) only [wrap_id, Int.tdiv_eq_ediv_of_nonneg, em]
      have cong : ∀ {a b : Int} {l m : List V}, a = b → l = m → vi a :: l = vi b :: m := fun h1 h2 => by rw [h1, h2]
      refine Eq.mp (congrArg (fun l => K (.tup [.agg l, vi 0]) []) ?_) hk
      refine cong rfl (cong rfl (cong rfl (cong rfl (cong rfl (cong rfl (cong rfl (cong rfl (cong rfl (cong rfl (cong rfl ?_))))))))))
      refine cong ?_ (cong ?_ (cong ?_ (cong ?_ (cong ?_ (cong ?_ (cong ?_ (cong ?_ (cong ?_ (cong ?_ (cong ?_ (cong ?_ rfl)))))))))))
      all_goals simp only [List.getD_cons_zero, List.getD_cons_succ]
      all_goals omega)
end Go.Rx
