import Derived.Test.YtimebkgadobpoaaN26c
import Derived.Test.YtimebkgadobpoaaL26
namespace Go.Rx
open Go.Proofs
attribute [local irreducible] Loop ex exF contK roundK retK at_ bodyOf mkEnv

theorem sigL_ok (n : Nat) (h : SpecOK Try.prog elTT n (ev2S lessM)) : ∀ g s, sigL n g = some s → SpecOK Try.prog elTT g s := by
  intro g s hs
  unfold sigL at hs
  cases e : Nat.beq g n with
  | true => rw [e] at hs; injection hs with hs; subst hs; rw [Nat.eq_of_beq_eq_true e]; exact h
  | false => rw [e] at hs; cases hs

theorem wrap_pred {i : Nat} (h : i ≤ 4611686018427387904) : IntKind.i64.wrap (((i + 1 : Nat) : Int) - 1) = (i : Int) := by rw [wrap_id (by omega) (by omega)]; omega

theorem sort_ok : SpecOK Try.prog elTT 27 (sortS sortM) := by
  refine spec_of_exF (cfg := cfg27) (cfg_ok rfl rfl rfl) (sigL_ok 25 less_ok) (fn := Try.f27) (by kernel_rfl) (by kernel_rfl) (by kernel_rfl) ?_
  intro args H K h
  obtain ⟨l, rfl, rfl, hl, hk⟩ := sortS_elim h
  refine Eq.mpr (nf27 l K) ?_
  refine loop_ind (σ := Nat) (fun i => mkEnv [(0, .row 0), (3, .row 1), (7, .row 0), (8, vi l.length), (9, vi i)]) (fun i => [.row 3 l true, .row 0 (sortTo l i) false]) (fun i => i ≤ l.length) (fun i => l.length - i) ?_ 0 (Nat.zero_le _)
  intro i hi J hJ
  refine Eq.mpr (nf27r l (sortTo l i) l.length i K J) (br_intro (fun h1 => ?_) (fun h1 => ?_))
  · have h1 : i < l.length := by simpa using h1
    have next : J (mkEnv [(0, .row 0), (3, .row 1), (7, .row 0), (8, vi l.length), (9, vi (IntKind.i64.wrap ((i : Int) + 1)))]) [.row 3 l true, .row 0 (sortTo l (i + 1)) false] := by
      rw [wrap_succ (by omega)]
      exact hJ (i + 1) h1 (by omega)
    have hlen := sortTo_len l i
    refine Req_intro (inR_nat h1) (Req_intro (inR_nat h1) ?_)
    simp only [offs, Int.toNat_natCast]
    rw [sortTo_succ] at next
    unfold sortStep at next
    refine br_intro (fun hs => ?_) (fun hs => ?_)
    · have hs : (l.getD i dEv).Sure = false := by simpa using hs
      rw [hs] at next
      exact next
    · have hs : (l.getD i dEv).Sure = true := by simpa using hs
      rw [hs] at next
      simp only at next
      refine Req_intro (by simp; omega) ?_
      have e0 : IntKind.i64.wrap (((sortTo l i ++ [(i : Int)]).length : Int) - 1) = ((sortTo l i).length : Int) := by
        rw [List.length_append]; exact wrap_pred (by omega)
      have e1 : sortTo l i ++ [(i : Int)] = midM i (sortTo l i) (sortTo l i).length := by simp [midM]
      rw [e0, e1]
      generalize hout : sortTo l i = out at *
      have hmem : ∀ j ∈ out, 0 ≤ j ∧ j < (l.length : Int) := fun j hj => by
        rw [← hout] at hj
        have := sortTo_mem l i j hj
        exact ⟨this.1, by omega⟩
      refine loop_ind (σ := Nat) (fun k => mkEnv [(0, .row 0), (3, .row 1), (7, .row 0), (8, vi l.length), (9, vi i), (5, .ptr 2 0), (4, vi i), (6, vi k)]) (fun k => [.row 3 l true, .row 0 (midM i out k) false, .cells 36 (evCs (l.getD i dEv))])
        (fun k => k ≤ out.length ∧ ∀ j ∈ out.drop k, pM l i j = true) (fun k => k) ?_ out.length ⟨Nat.le_refl _, by simp⟩
      intro k ⟨hk1, hk2⟩ J2 hJ2
      refine Eq.mpr (nf27i l (midM i out k) l.length i (l.getD i dEv) i k K J J2) (br_intro (fun h2 => ?_) (fun h2 => ?_))
      · obtain ⟨k, rfl⟩ : ∃ m, k = m + 1 := ⟨k - 1, by simp at h2; omega⟩
        have hkl : k < out.length := by omega
        have hml := mid_len (x := (i : Int)) (out := out) hk1
        rw [wrap_pred (by omega)]
        have hb := mid_below (x := (i : Int)) (out := out) hk1 (show k < k + 1 by omega)
        have hge : out.getD k 0 = out[k] := by simp [List.getD, List.getElem?_eq_getElem hkl]
        have hm := hmem out[k] (List.getElem_mem hkl)
        refine Req_intro (inR_nat (by omega)) (Req_intro (inR_nat (by omega)) ?_)
        simp only [offs, Int.toNat_natCast, hb, hge]
        refine Req_intro (inR_int hm.1 hm.2) (Req_intro (inR_int hm.1 hm.2) ?_)
        refine br_intro (fun hp => ?_) (fun hp => ?_)
        · rw [insM_at hk1 hk2 (.inr (by rw [Nat.add_sub_cancel, hge]; unfold pM; simpa using hp))] at next
          exact next
        · refine Req_intro (inR_nat (by omega)) (Req_intro (inR_nat (by omega)) (Req_intro (inR_nat (by omega)) (Req_intro (inR_nat (by omega)) (Req_intro (inR_nat (by omega)) (Req_intro (inR_nat (by omega)) (Req_intro (inR_nat (by omega)) (Req_intro (inR_nat (by simp; omega)) ?_)))))))
          have hsw := mid_swap (x := (i : Int)) (out := out) hk1
          rw [mid_at hk1]
          rw [hge] at hsw
          have hcast : (((k : Nat) : Int) + 1).toNat = k + 1 := by omega
          rw [hsw]
          refine hJ2 k ⟨by omega, fun j hj => ?_⟩ (by omega)
          rw [List.drop_eq_getElem_cons hkl] at hj
          rcases List.mem_cons.1 hj with rfl | hj
          · unfold pM; simpa using hp
          · exact hk2 j hj
      · have h2 : k = 0 := by simp at h2; omega
        subst h2
        rw [insM_at hk1 hk2 (.inl rfl)] at next
        exact next
  · have h1 : i = l.length := by simp at h1; omega
    subst h1
    exact hk

end Go.Rx
