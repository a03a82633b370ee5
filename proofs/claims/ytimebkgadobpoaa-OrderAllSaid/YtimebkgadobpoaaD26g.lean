import Derived.Test.YtimebkgadobpoaaS26
import Derived.Test.YtimebkgadobpoaaRxEv
namespace Go.Rx
open Go.Proofs
attribute [local irreducible] Loop ex exF contK roundK retK at_ bodyOf mkEnv

theorem checks_law : SpecOK Try.prog elTT 8 (lawS [.row 3, .row 0]) := by
  refine spec_of_exF (cfg := cfg8) (cfg_ok rfl rfl rfl) (sigA_ok 8 rfl) (fn := Try.f8) (by kernel_rfl) (by kernel_rfl) (by kernel_rfl) ?_
  intro args H K h
  obtain ⟨ha, hk⟩ := h
  obtain ⟨l, o, rfl, rfl⟩ := args_ev_int ha
  refine Eq.mpr (nf8 l o K) (br_intro (fun _ => hk _) (fun h60 => br_intro (fun _ => hk _) (fun h80 => ?_)))
  have h60 : l.length ≤ 60 := by have := of_decide_eq_false h60; omega
  have h80 : o.length ≤ 80 := by have := of_decide_eq_false h80; omega
  have h1 : l.length ≤ 100000 := by omega
  have h2 : o.length ≤ 100000 := by omega
  have h3 : (sortM l).length ≤ 100000 := by have := sortTo_len l l.length; unfold sortM; omega
  exact ⟨h1, h2, h1, h2, br_true (by rw [check_same]; simp) ⟨h1, h1, h3, h1, h1, h3, br_true (by rw [check_same]; simp) (hk _)⟩⟩

theorem nthB_set {u : List Bool} {p k : Nat} (h : p < u.length) : (u.set p true).getD k false = if p = k then true else u.getD k false := by
  by_cases hk : p = k
  · subst hk; simp [List.getD, List.getElem?_set, h]
  · simp [List.getD, List.getElem?_set, hk]

theorem all_law : SpecOK Try.prog elTT 9 (lawS [.row 3]) := by
  refine spec_of_exF (cfg := cfg9) (cfg_ok rfl rfl rfl) (sigA_ok 9 rfl) (fn := Try.f9) (by kernel_rfl) (by kernel_rfl) (by kernel_rfl) ?_
  intro args H K h
  obtain ⟨ha, hk⟩ := h
  obtain ⟨l, rfl, rfl⟩ := args_ev ha
  refine Eq.mpr (nf9 l K) (br_intro (fun _ => hk _) (fun h60 => ?_))
  have h60 : l.length ≤ 60 := by have := of_decide_eq_false h60; omega
  refine ⟨(show l.length ≤ 100000 by omega), Req_intro (by simp; omega) ?_⟩
  have hol : (sortM l).length ≤ l.length := sortTo_len l l.length
  have hord : Ordered l (sortM l) := sortTo_ordered l l.length
  have hnd : (sortM l).Nodup := sortTo_nodup l l.length
  have hmem : ∀ j ∈ sortM l, 0 ≤ j ∧ j < (l.length : Int) ∧ (l.getD j.toNat dEv).Sure = true := fun j hj => sortTo_mem l l.length j hj
  have hhas : ∀ p < l.length, (l.getD p dEv).Sure = true → (p : Int) ∈ sortM l := fun p hp hs => sortTo_has l l.length p hp hs
  have hchk := @check_sort l
  generalize sortM l = o at *
  rw [Int.toNat_natCast]
  refine loop_ind (σ := Nat × List Bool) (fun s => mkEnv [(0, .row 0), (3, .row 1), (4, .row 2), (5, vi s.1)]) (fun s => [.row 3 l true, .row 0 o false, .row 1 s.2 false])
    (fun s => s.1 ≤ o.length ∧ s.2.length = l.length ∧ ∀ p < l.length, (s.2.getD p false = true ↔ (p : Int) ∈ o.take s.1)) (fun s => o.length - s.1) ?_ (0, _) ⟨Nat.zero_le _, by simp, fun p hp => by simp [List.getD, hp]⟩
  intro ⟨i, u⟩ ⟨hi, hul, hu⟩ J hJ
  simp only at hi hul hu
  refine Eq.mpr (nf9a l o u i K J) (br_intro (fun h1 => ?_) (fun h1 => ?_))
  · have h1 : i < o.length := by have := of_decide_eq_true h1; omega
    have hm := hmem o[i] (List.getElem_mem h1)
    have hg : o.getD i 0 = o[i] := getD_lt h1
    have i1 : inR (i : Int) o.length = true := inR_nat h1
    have i2 : inR (o.getD i 0) u.length = true := by rw [hg]; exact inR_int hm.1 (by omega)
    have i3 : inR (o.getD i 0) l.length = true := by rw [hg]; exact inR_int hm.1 (by omega)
    have hun : u.getD (o.getD i 0).toNat false = false := by
      rw [← Bool.not_eq_true, hg, hu _ (by omega)]
      intro hc
      obtain ⟨j, hj, e⟩ := List.getElem_of_mem hc
      rw [List.getElem_take] at e
      have hjl : j < o.length := by simp at hj; omega
      have e2 : o[j] = o[i] := by omega
      have := (List.getElem_inj hnd).1 e2
      simp at hj; omega
    refine Req_intro i1 (Req_intro i1 (br_false (by rw [decide_eq_false_iff_not]; show ¬ o.getD i 0 < 0; rw [hg]; omega) ?_))
    refine Req_intro i1 (Req_intro i1 (br_false (by rw [decide_eq_false_iff_not]; show ¬ o.getD i 0 ≥ _; rw [hg]; omega) ?_))
    refine Req_intro i1 (Req_intro i1 (Req_intro i2 (Req_intro i2 (br_false hun ?_))))
    refine Req_intro i1 (Req_intro i1 (Req_intro i3 (Req_intro i3 (br_false ?_ ?_))))
    · show (!(l.getD (o.getD i 0).toNat dEv).Sure) = false
      rw [hg, hm.2.2]; rfl
    refine Req_intro i1 (Req_intro i1 (Req_intro i2 (Req_intro i2 ?_)))
    simp only [offs, Int.toNat_natCast]
    refine loop_ind (σ := Nat) (fun j => mkEnv [(0, .row 0), (3, .row 1), (4, .row 2), (5, vi i), (6, vi j)]) (fun _ => [.row 3 l true, .row 0 o false, .row 1 (u.set (o.getD i 0).toNat true) false])
      (fun j => j ≤ i) (fun j => i - j) ?_ 0 (Nat.zero_le _)
    intro j hj J2 hJ2
    refine Eq.mpr (nf9b l o _ i j K J J2) (br_intro (fun h2 => ?_) (fun h2 => ?_))
    · have h2 : j < i := by have := of_decide_eq_true h2; omega
      have hmj := hmem o[j] (List.getElem_mem (show j < o.length by omega))
      have hgj : o.getD j 0 = o[j] := getD_lt (by omega)
      have j1 : inR (j : Int) o.length = true := inR_nat (by omega)
      have j3 : inR (o.getD j 0) l.length = true := by rw [hgj]; exact inR_int hmj.1 (by omega)
      refine Req_intro i1 (Req_intro i1 (Req_intro i3 (Req_intro i3 (Req_intro j1 (Req_intro j1 (Req_intro j3 (Req_intro j3 (br_false ?_ ?_))))))))
      · show lessM (l.getD (o.getD i 0).toNat dEv) (l.getD (o.getD j 0).toNat dEv) = false
        rw [hg, hgj]
        exact List.pairwise_iff_getElem.1 hord j i (by omega) h1 h2
      · rw [wrap_succ (by omega)]
        exact hJ2 (j + 1) h2 (by omega)
    · rw [wrap_succ (by omega)]
      have hlt : (o.getD i 0).toNat < u.length := by rw [hg]; omega
      refine hJ (i + 1, _) ⟨h1, by simpa using hul, fun p hp => ?_⟩ (by simp; omega)
      show (u.set (o.getD i 0).toNat true).getD p false = true ↔ _
      rw [nthB_set hlt, List.take_succ_eq_append_getElem h1, List.mem_append, ← hu p hp]
      by_cases hpi : (o.getD i 0).toNat = p
      · rw [if_pos hpi]
        have : (p : Int) ∈ [o[i]] := by rw [hg] at hpi; simp; omega
        simp [this]
      · rw [if_neg hpi]
        have : ¬ (p : Int) ∈ [o[i]] := by rw [hg] at hpi; simp; omega
        simp [this]
  · have h1 : i = o.length := by have := of_decide_eq_false h1; omega
    subst h1
    clear hJ hi J
    rw [List.take_length] at hu
    refine loop_ind (σ := Nat × Bool) (fun s => mkEnv [(0, .row 0), (3, .row 1), (4, .row 2), (7, vb s.2), (8, vi s.1)]) (fun s => [.row 3 l true, .row 0 o false, .row 1 u false])
      (fun s => s.1 ≤ l.length ∧ (s.2 = true → ∀ p < s.1, (l.getD p dEv).Done = true → (l.getD p dEv).Sure = true)) (fun s => l.length - s.1) ?_ (0, true) ⟨Nat.zero_le _, fun _ p hp => by simp at hp⟩
    intro ⟨i, q⟩ ⟨hi, hq⟩ J hJ
    simp only at hi hq
    refine Eq.mpr (nf9c l o u q i K J) (br_intro (fun h1 => ?_) (fun h1 => ?_))
    · have h1 : i < l.length := by have := of_decide_eq_true h1; omega
      have i1 : inR (i : Int) l.length = true := inR_nat h1
      have i2 : inR (i : Int) u.length = true := inR_nat (by omega)
      have next : ∀ q', (q' = true → ∀ p < i + 1, (l.getD p dEv).Done = true → (l.getD p dEv).Sure = true) →
          J (mkEnv [(0, .row 0), (3, .row 1), (4, .row 2), (7, vb q'), (8, vi (IntKind.i64.wrap ((i : Int) + 1)))]) [.row 3 l true, .row 0 o false, .row 1 u false] := by
        intro q' hq'
        rw [wrap_succ (by omega)]
        exact hJ (i + 1, q') ⟨h1, hq'⟩ (by simp; omega)
      have hsame : (l.getD i dEv).Sure = u.getD i false := by
        apply Bool.eq_iff_iff.2
        rw [hu i h1]
        exact ⟨hhas i h1, fun h => by have := (hmem _ h).2.2; rwa [Int.toNat_natCast] at this⟩
      refine Req_intro i1 (Req_intro i1 (Req_intro i2 (Req_intro i2 (br_false ?_ ?_))))
      · show (!((l.getD i dEv).Sure == u.getD i false)) = false
        rw [hsame]; simp
      refine br_intro (fun hqt => Req_intro i1 (Req_intro i1 (br_intro (fun hd => next true fun _ p hp hdp => ?_) (fun hd => Req_intro i1 (Req_intro i1 (next _ fun hs p hp hdp => ?_)))))) (fun _ => next false fun h => by cases h)
      · by_cases hpi : p = i
        · subst hpi
          have hd' : (!(l.getD p dEv).Done) = true := hd
          rw [hdp] at hd'; cases hd'
        · exact hq hqt p (by omega) hdp
      · by_cases hpi : p = i
        · subst hpi; exact hs
        · exact hq hqt p (by omega) hdp
    · have h1 : i = l.length := by have := of_decide_eq_false h1; omega
      subst h1
      refine br_intro (fun _ => hk _) (fun hqt => ⟨(show l.length ≤ 100000 by omega), (show o.length ≤ 100000 by omega), br_true ?_ (hk _)⟩)
      have hqt : q = true := by simpa using hqt
      simpa using hchk (hq hqt)
end Go.Rx
