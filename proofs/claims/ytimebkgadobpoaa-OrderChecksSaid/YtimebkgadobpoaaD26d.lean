import Derived.Test.YtimebkgadobpoaaN26d
import Derived.Test.YtimebkgadobpoaaL26b
namespace Go.Rx
open Go.Proofs
attribute [local irreducible] Loop ex exF contK roundK retK at_ bodyOf mkEnv

theorem ranks_ok : SpecOK Try.prog elTT 38 ranksS := by
  refine spec_of_exF (cfg := cfg38) (cfg_ok rfl rfl rfl) (nosig rfl) (fn := Try.f38) (by kernel_rfl) (by kernel_rfl) (by kernel_rfl) ?_
  intro args H K h
  obtain ⟨l, o, rfl, rfl, hl, ho, hs, hn⟩ := ranksS_elim h
  refine Eq.mpr (nf38 l o K) (Req_intro (by simp; omega) ?_)
  have e0 : List.replicate (Int.toNat (l.length : Int)) (0 : Int) = minusTo l.length 0 := by rw [minus_zero, Int.toNat_natCast]
  rw [e0, minus_len (Nat.zero_le _)]
  refine loop_ind (σ := Nat) (fun i => mkEnv [(0, .row 0), (1, .row 1), (6, .row 2), (16, vi l.length), (17, vi i)]) (fun i => [.row 3 l true, .row 0 o true, .row 0 (minusTo l.length i) false]) (fun i => i ≤ l.length) (fun i => l.length - i) ?_ 0 (Nat.zero_le _)
  intro i hi J hJ
  refine Eq.mpr (nf38a l o (minusTo l.length i) l.length i K J) (br_intro (fun h1 => ?_) (fun h1 => ?_))
  · have h1 : i < l.length := by simpa using h1
    have hml := minus_len (n := l.length) hi
    refine Req_intro (inR_nat (by omega)) (Req_intro (inR_nat (by omega)) ?_)
    simp only [offs, Int.toNat_natCast]
    rw [wrap_succ (by omega), minus_set h1]
    exact hJ (i + 1) h1 (by omega)
  · have h1 : i = l.length := by simp at h1; omega
    subst h1
    rw [minus_all]
    clear hJ hi J
    refine loop_ind (σ := Nat × List Int) (fun s => mkEnv [(0, .row 0), (1, .row 1), (6, .row 2), (24, .row 1), (25, vi o.length), (26, vi s.1)]) (fun s => [.row 3 l true, .row 0 o true, .row 0 s.2 false])
      (fun s => s.1 ≤ o.length ∧ rankTo l o s.1 = some s.2) (fun s => o.length - s.1) ?_ (0, _) ⟨Nat.zero_le _, rfl⟩
    intro ⟨i, r⟩ ⟨hi, hr⟩ J hJ
    simp only at hi hr
    refine Eq.mpr (nf38b l o r o.length i K J) (br_intro (fun h1 => ?_) (fun h1 => ?_))
    · have h1 : i < o.length := by simpa using h1
      have hrl := rankTo_len hr
      refine Req_intro (inR_nat h1) (Req_intro (inR_nat h1) ?_)
      simp only [offs, Int.toNat_natCast]
      have bad := fun hb => hn (rankM_bad h1 hr hb)
      refine br_intro (fun h2 => bad fun hk => ?_) (fun h2 => ?_)
      · have := hk.1; simp at h2; simp at this; omega
      refine br_intro (fun h3 => bad fun hk => ?_) (fun h3 => ?_)
      · have := hk.2.1; simp at h3; simp at this; omega
      have hp : 0 ≤ o.getD i 0 ∧ o.getD i 0 < (l.length : Int) := by
        have a := of_decide_eq_false h2; have b := of_decide_eq_false h3; exact ⟨Int.not_lt.1 a, Int.not_le.1 b⟩
      have q1 : inR (o.getD i 0) r.length = true := inR_int hp.1 (by omega)
      have q2 : inR (o.getD i 0) l.length = true := inR_int hp.1 (by omega)
      refine Req_intro q1 (Req_intro q1 ?_)
      refine br_intro (fun h4 => bad fun hk => ?_) (fun h4 => ?_)
      · have := hk.2.2.1; rw [this] at h4; simp at h4
      refine Req_intro q2 (Req_intro q2 ?_)
      refine br_intro (fun h5 => bad fun hk => ?_) (fun h5 => ?_)
      · have := hk.2.2.2; rw [this] at h5; cases h5
      refine Req_intro q1 (Req_intro q1 ?_)
      rw [wrap_succ (by omega)]
      refine hJ (i + 1, _) ⟨h1, rankTo_ok hr ⟨hp.1, hp.2, by simpa using h4, by simpa using h5⟩⟩ (by simp; omega)
    · have h1 : i = o.length := by simp at h1; omega
      subst h1
      clear hJ hi J
      have hrl := rankTo_len hr
      refine loop_ind (σ := Nat) (fun i => mkEnv [(0, .row 0), (1, .row 1), (6, .row 2), (59, .row 0), (60, vi l.length), (61, vi i)]) (fun _ => [.row 3 l true, .row 0 o true, .row 0 r false])
        (fun i => i ≤ l.length ∧ undone l r i = false) (fun i => l.length - i) ?_ 0 ⟨Nat.zero_le _, rfl⟩
      intro i ⟨hi, hu⟩ J hJ
      refine Eq.mpr (nf38c l o r l.length i K J) (br_intro (fun h1 => ?_) (fun h1 => ?_))
      · have h1 : i < l.length := by simpa using h1
        refine Req_intro (inR_nat h1) (Req_intro (inR_nat h1) ?_)
        simp only [offs, Int.toNat_natCast]
        have next : undone l r (i + 1) = false → J (mkEnv [(0, .row 0), (1, .row 1), (6, .row 2), (59, .row 0), (60, vi l.length), (61, vi (IntKind.i64.wrap ((i : Int) + 1)))]) [.row 3 l true, .row 0 o true, .row 0 r false] := by
          rw [wrap_succ (by omega)]
          exact fun h => hJ (i + 1) ⟨h1, h⟩ (by omega)
        refine br_intro (fun h2 => Req_intro (inR_nat (by omega)) (Req_intro (inR_nat (by omega)) (br_intro (fun h3 => hn ?_) (fun h3 => next ?_)))) (fun h2 => next ?_)
        · have : undone l r (i + 1) = true := by rw [undone_succ, hu, h2, h3]; rfl
          simp only [rankM, hr, undone_more this h1]
        · rw [undone_succ, hu, h3]; simp
        · rw [undone_succ, hu, h2]; rfl
      · have h1 : i = l.length := by simp at h1; omega
        subst h1
        refine hs r ?_
        simp only [rankM, hr, hu]

def badRow (l : List Ev) (o r : List Int) (i j : Nat) : Bool := (List.range j).any fun j => badAt l o r i j
theorem badRow_succ {l : List Ev} {o r : List Int} {i j : Nat} : badRow l o r i (j + 1) = (badRow l o r i j || badAt l o r i j) := by simp [badRow, List.range_succ]
theorem badTo_succ {l : List Ev} {o r : List Int} {i : Nat} : badTo l o r (i + 1) = (badTo l o r i || badRow l o r i i) := by simp [badTo, badRow, List.range_succ]
theorem badRow_more {l : List Ev} {o r : List Int} {i j n : Nat} (h : badRow l o r i j = true) (hn : j ≤ n) : badRow l o r i n = true := by
  obtain ⟨m, rfl⟩ : ∃ m, n = j + m := ⟨n - j, by omega⟩
  clear hn
  induction m with
  | zero => exact h
  | succ m ih => rw [← Nat.add_assoc, badRow_succ, ih]; rfl
theorem badTo_more {l : List Ev} {o r : List Int} {i n : Nat} (h : badTo l o r i = true) (hn : i ≤ n) : badTo l o r n = true := by
  obtain ⟨m, rfl⟩ : ∃ m, n = i + m := ⟨n - i, by omega⟩
  clear hn
  induction m with
  | zero => exact h
  | succ m ih => rw [← Nat.add_assoc, badTo_succ, ih]; rfl

theorem sig29_ok : ∀ g s, sig29 g = some s → SpecOK Try.prog elTT g s := by
  intro g s hs
  unfold sig29 at hs
  cases e : Nat.beq g 38 with
  | true => rw [e] at hs; injection hs with hs; subst hs; rw [Nat.eq_of_beq_eq_true e]; exact ranks_ok
  | false =>
    rw [e] at hs
    cases e2 : Nat.beq g 15 with
    | true => rw [e2] at hs; injection hs with hs; subst hs; rw [Nat.eq_of_beq_eq_true e2]; exact ahead_ok
    | false => rw [e2] at hs; cases hs

theorem check_ok : SpecOK Try.prog elTT 29 (checkS checkM) := by
  refine spec_of_exF (cfg := cfg29) (cfg_ok rfl rfl rfl) sig29_ok (fn := Try.f29) (by kernel_rfl) (by kernel_rfl) (by kernel_rfl) ?_
  intro args H K h
  obtain ⟨l, o, rfl, rfl, hl, ho, hk⟩ := checkS_elim h
  refine Eq.mpr (nf29 l o K) ⟨hl, ho, fun r hr => ?_, fun hr => ?_⟩
  · unfold checkM at hk
    rw [hr] at hk
    simp only at hk
    obtain ⟨hto, hun⟩ := rankM_some hr
    have hrl := rankTo_len hto
    have hent := rankTo_ent hto
    refine loop_ind (σ := Nat) (fun i => mkEnv [(0, .row 0), (1, .row 1), (5, .row 2), (19, .row 1), (20, vi o.length), (21, vi i)]) (fun _ => [.row 3 l true, .row 0 o true, .row 0 r false])
      (fun i => i ≤ o.length ∧ badTo l o r i = false) (fun i => o.length - i) ?_ 0 ⟨Nat.zero_le _, rfl⟩
    intro i ⟨hi, hb⟩ J hJ
    refine Eq.mpr (nf29r l o r o.length i K J) (br_intro (fun h1 => ?_) (fun h1 => ?_))
    · have h1 : i < o.length := by simpa using h1
      refine Req_intro (inR_nat h1) (Req_intro (inR_nat h1) (Req_intro (by simp; omega) ?_))
      simp only [offs, Int.toNat_natCast]
      have hp := hent i h1
      refine loop_ind (σ := Nat) (fun j => mkEnv [(0, .row 0), (1, .row 1), (5, .row 2), (19, .row 1), (20, vi o.length), (21, vi i), (7, vi i), (8, vi (o.getD i 0)), (28, .sub 1 0 i 1), (29, vi i), (30, vi j)])
        (fun _ => [.row 3 l true, .row 0 o true, .row 0 r false]) (fun j => j ≤ i ∧ badRow l o r i j = false) (fun j => i - j) ?_ 0 ⟨Nat.zero_le _, rfl⟩
      intro j ⟨hj, hbj⟩ J2 hJ2
      refine Eq.mpr (nf29i l o r o.length i i (o.getD i 0) i j i K J J2) (br_intro (fun h2 => ?_) (fun h2 => ?_))
      · have h2 : j < i := by simpa using h2
        have hq := hent j (by omega)
        have q1 : inR (o.getD i 0) l.length = true := inR_int hp.1 (by omega)
        have q2 : inR (o.getD j 0) l.length = true := inR_int hq.1 (by omega)
        have q3 : inR (o.getD i 0) r.length = true := inR_int hp.1 (by omega)
        have q4 : inR (o.getD j 0) r.length = true := inR_int hq.1 (by omega)
        simp only [offs, Int.toNat_natCast] at *
        refine Req_intro (by simp; omega) (Req_intro (inR_nat h2) (Req_intro (inR_nat (by omega)) (Req_intro q1 (Req_intro q1 (Req_intro q2 (Req_intro q2 ?_))))))
        have next : badRow l o r i (j + 1) = false → J2 (mkEnv [(0, .row 0), (1, .row 1), (5, .row 2), (19, .row 1), (20, vi o.length), (21, vi i), (7, vi i), (8, vi (o.getD i 0)), (28, .sub 1 0 i 1), (29, vi i), (30, vi (IntKind.i64.wrap ((j : Int) + 1)))]) [.row 3 l true, .row 0 o true, .row 0 r false] := by
          rw [wrap_succ (by omega)]
          exact fun h => hJ2 (j + 1) ⟨h2, h⟩ (by omega)
        refine br_intro (fun h3 => Req_intro q4 (Req_intro q4 (Req_intro q3 (Req_intro q3 (br_intro (fun h4 => ?_) (fun h4 => next ?_)))))) (fun h3 => next ?_)
        · have e1 : badRow l o r i (j + 1) = true := by
            have h4' : decide (r.getD (o.getD j 0).toNat 0 < r.getD (o.getD i 0).toNat 0) = true := h4
            rw [badRow_succ, hbj]; unfold badAt; rw [h3]; exact h4'
          have e2 : badTo l o r (i + 1) = true := by rw [badTo_succ, badRow_more e1 h2]; simp
          rw [badTo_more e2 h1] at hk
          exact hk
        · have h4' : decide (r.getD (o.getD j 0).toNat 0 < r.getD (o.getD i 0).toNat 0) = false := h4
          rw [badRow_succ, hbj]; unfold badAt; rw [h3]; exact h4'
        · rw [badRow_succ, hbj]; unfold badAt; rw [h3]; rfl
      · have h2 : j = i := by simp at h2; omega
        subst h2
        rw [wrap_succ (by omega)]
        exact hJ (j + 1) ⟨h1, by rw [badTo_succ, hb, hbj]; rfl⟩ (by omega)
    · have h1 : i = o.length := by simp at h1; omega
      subst h1
      rw [hb] at hk
      exact hk
  · unfold checkM at hk
    rw [hr] at hk
    exact hk
end Go.Rx
