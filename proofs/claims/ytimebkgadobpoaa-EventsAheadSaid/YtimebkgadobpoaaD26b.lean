import Derived.Test.YtimebkgadobpoaaN26b
namespace Go.Rx
open Go.Proofs
attribute [local irreducible] Loop ex exF contK roundK retK at_ bodyOf mkEnv

theorem take_next {l m : List Int} {i : Nat} (hl : i < l.length) (hm : i < m.length) (h : l.take i = m.take i) (e : l.getD i 0 = m.getD i 0) : l.take (i + 1) = m.take (i + 1) := by
  rw [List.take_succ_eq_append_getElem hl, List.take_succ_eq_append_getElem hm, h]
  simp only [List.getD, List.getElem?_eq_getElem hl, List.getElem?_eq_getElem hm, Option.getD_some] at e
  rw [e]

theorem same_ok : SpecOK Try.prog elTT 18 sameS := by
  refine spec_of_exF (cfg := cfg18) (cfg_ok rfl rfl rfl) (nosig rfl) (fn := Try.f18) (by kernel_rfl) (by kernel_rfl) (by kernel_rfl) ?_
  intro args H K h
  obtain ⟨l, m, rfl, rfl, hl, hk⟩ := sameS_elim h
  unfold eqI at hk
  refine Eq.mpr (nf18 l m K) (br_intro (fun hne => ?_) (fun heq => ?_))
  · have : l ≠ m := fun e => by subst e; simp at hne
    simpa [this] using hk
  · have hlen : l.length = m.length := by simp at heq; omega
    refine loop_ind (σ := Nat) (fun i => mkEnv [(0, .row 0), (1, .row 1), (5, vi i)]) (fun _ => [.row 0 l true, .row 0 m true]) (fun i => i ≤ l.length ∧ l.take i = m.take i) (fun i => l.length - i) ?_ 0 ⟨Nat.zero_le _, by simp⟩
    intro i ⟨hi, ht⟩ J hJ
    refine Eq.mpr (nf18r l m i K J) (br_intro (fun h1 => ?_) (fun h1 => ?_))
    · have h1 : i < l.length := by simpa using h1
      refine Req_intro (inR_nat h1) (Req_intro (inR_nat h1) (Req_intro (inR_nat (by omega)) (Req_intro (inR_nat (by omega)) ?_)))
      simp only [offs, Int.toNat_natCast]
      refine br_intro (fun hne => ?_) (fun he => ?_)
      · have : l ≠ m := fun e => by subst e; simp at hne
        simpa [this] using hk
      · rw [wrap_succ (by omega)]
        exact hJ (i + 1) ⟨by omega, take_next h1 (by omega) ht (by simpa using he)⟩ (by omega)
    · have h1 : i = l.length := by simp at h1; omega
      subst h1
      have e : l = m := by rw [List.take_length] at ht; rw [hlen, List.take_length] at ht; exact ht
      simpa [e] using hk
end Go.Rx
