import Derived.Test.YtimebkgadobpoaaN26e
namespace Go.Rx
open Go.Proofs
attribute [local irreducible] Loop ex exF contK roundK retK at_ bodyOf mkEnv

theorem refSort_ok : SpecOK Try.prog elTT 28 (sortS sortM) := by
  refine spec_of_exF (cfg := cfg28) (cfg_ok rfl rfl rfl) (sigL_ok 26 refLess_ok) (fn := Try.f28) (by kernel_rfl) (by kernel_rfl) (by kernel_rfl) ?_
  intro args H K h
  obtain ⟨l, rfl, rfl, hl, hk⟩ := sortS_elim h
  refine Eq.mpr (nf28 l K) ?_
  refine loop_ind (σ := Nat) (fun i => mkEnv [(0, .row 0), (3, .row 1), (4, vi i)]) (fun i => [.row 3 l true, .row 0 (sortTo l i) false]) (fun i => i ≤ l.length) (fun i => l.length - i) ?_ 0 (Nat.zero_le _)
  intro i hi J hJ
  refine Eq.mpr (nf28r l (sortTo l i) i K J) (br_intro (fun h1 => ?_) (fun h1 => ?_))
  · have h1 : i < l.length := by simpa using h1
    have next : J (mkEnv [(0, .row 0), (3, .row 1), (4, vi (IntKind.i64.wrap ((i : Int) + 1)))]) [.row 3 l true, .row 0 (sortTo l (i + 1)) false] := by
      rw [wrap_succ (by omega)]
      exact hJ (i + 1) h1 (by omega)
    have hlen := sortTo_len l i
    refine Req_intro (inR_nat h1) (Req_intro (inR_nat h1) ?_)
    simp only [offs, Int.toNat_natCast]
    rw [sortTo_succ] at next
    unfold sortStep at next
    refine br_intro (fun hs => ?_) (fun hs => ?_)
    · have hs : (l.getD i dEv).Sure = false := by simpa using hs
      rw [hs] at next
      exact next
    · have hs : (l.getD i dEv).Sure = true := by simpa using hs
      rw [hs] at next
      simp only at next
      generalize hout : sortTo l i = out at *
      have hmem : ∀ j ∈ out, 0 ≤ j ∧ j < (l.length : Int) := fun j hj => by
        rw [← hout] at hj
        have := sortTo_mem l i j hj
        exact ⟨this.1, by omega⟩
      have done : ∀ k, k ≤ out.length → (∀ j ∈ out.drop k, pM l i j = true) → (k = 0 ∨ pM l i (out.getD (k - 1) 0) = false) →
          J (mkEnv [(0, .row 0), (3, .row 1), (4, vi (IntKind.i64.wrap ((i : Int) + 1)))]) [.row 3 l true, .row 0 (List.take k (List.drop 0 out) ++ [(i : Int)] ++ List.take (out.length - k) (List.drop k out)) false] := by
        intro k h1 h2 h3
        rw [insM_at h1 h2 h3] at next
        have e : List.take k (List.drop 0 out) ++ [(i : Int)] ++ List.take (out.length - k) (List.drop k out) = out.take k ++ (i : Int) :: out.drop k := by
          rw [List.drop_zero, List.take_of_length_le (by simp : (List.drop k out).length ≤ out.length - k)]
          simp
        rw [e]
        exact next
      refine loop_ind (σ := Nat) (fun k => mkEnv [(0, .row 0), (3, .row 1), (4, vi i), (5, vi k)]) (fun k => [.row 3 l true, .row 0 out false])
        (fun k => k ≤ out.length ∧ ∀ j ∈ out.drop k, pM l i j = true) (fun k => k) ?_ out.length ⟨Nat.le_refl _, by simp⟩
      intro k ⟨hk1, hk2⟩ J2 hJ2
      have rest : (k = 0 ∨ pM l i (out.getD (k - 1) 0) = false) → _ := fun hk3 =>
        Req_intro (b := decide (0 ≤ (k : Int) ∧ (k : Int) ≤ (out.length : Int))) (by simp; omega) (Req_intro (b := decide (0 + k ≤ out.length)) (by simp; omega) (Req_intro (b := decide (0 + (List.take k (List.drop 0 out)).length ≤ 1048576)) (by simp; omega)
          (Req_intro (b := decide ((List.take k (List.drop 0 out)).length + 1 ≤ 1048576)) (by simp; omega) (Req_intro (b := decide (0 ≤ (k : Int) ∧ (k : Int) ≤ (out.length : Int))) (by simp; omega) (Req_intro (b := decide (k + (out.length - k) ≤ out.length)) (by simp; omega)
            (Req_intro (b := decide ((List.take k (List.drop 0 out) ++ [(i : Int)]).length + (List.take (out.length - k) (List.drop k out)).length ≤ 1048576)) (by simp; omega) (done k hk1 hk2 hk3)))))))
      refine Eq.mpr (nf28i l out i k K J J2) (br_intro (fun h2 => ?_) (fun h2 => ?_))
      · obtain ⟨k, rfl⟩ : ∃ m, k = m + 1 := ⟨k - 1, by simp at h2; omega⟩
        have hkl : k < out.length := by omega
        rw [wrap_pred (by omega)]
        have hge : out.getD k 0 = out[k] := by simp [List.getD, List.getElem?_eq_getElem hkl]
        have hm := hmem out[k] (List.getElem_mem hkl)
        refine Req_intro (inR_nat h1) (Req_intro (inR_nat h1) (Req_intro (inR_nat hkl) (Req_intro (inR_nat hkl) ?_)))
        simp only [offs, Int.toNat_natCast, hge]
        refine Req_intro (inR_int hm.1 hm.2) (Req_intro (inR_int hm.1 hm.2) ?_)
        refine br_intro (fun hp => ?_) (fun hp => ?_)
        · refine hJ2 k ⟨by omega, fun j hj => ?_⟩ (by omega)
          rw [List.drop_eq_getElem_cons hkl] at hj
          rcases List.mem_cons.1 hj with rfl | hj
          · unfold pM; simpa using hp
          · exact hk2 j hj
        · exact rest (.inr (by rw [Nat.add_sub_cancel, hge]; unfold pM; simpa using hp))
      · have h2 : k = 0 := by simp at h2; omega
        subst h2
        exact rest (.inl rfl)
  · have h1 : i = l.length := by simp at h1; omega
    subst h1
    exact hk

def okAt0 (l : List Ev) (o r : List Int) (i : Nat) : Prop := 0 ≤ o.getD i 0 ∧ o.getD i 0 < (l.length : Int) ∧ r.getD (o.getD i 0).toNat 0 = 0 ∧ (l.getD (o.getD i 0).toNat dEv).Sure = true

theorem refTo_ok {l : List Ev} {o r : List Int} {i : Nat} (h : refTo l o i = some r) (hk : okAt0 l o r i) : refTo l o (i + 1) = some (r.set (o.getD i 0).toNat ((i : Int) + 1)) := by
  obtain ⟨h1, h2, h3, h4⟩ := hk
  simp only [refTo, h]
  have e1 : decide (o.getD i 0 < 0) = false := by simp only [decide_eq_false_iff_not]; omega
  have e2 : decide (o.getD i 0 ≥ (l.length : Int)) = false := by simp only [decide_eq_false_iff_not]; omega
  rw [e1, e2, h3, h4]
  rfl

theorem refTo_inv {l : List Ev} {o r : List Int} {i : Nat} (h : refTo l o (i + 1) = some r) : ∃ r', refTo l o i = some r' ∧ okAt0 l o r' i ∧ r = r'.set (o.getD i 0).toNat ((i : Int) + 1) := by
  simp only [refTo] at h
  split at h
  · cases h
  · rename_i r' e
    split at h
    · cases h
    · rename_i e2
      injection h with h
      simp only [Bool.or_eq_false_iff, decide_eq_false_iff_not, bne_eq_false_iff_eq, Bool.not_eq_false'] at e2
      obtain ⟨a1, a2, a3, a4⟩ := e2
      exact ⟨r', e, ⟨by omega, by omega, a3, a4⟩, h.symm⟩

theorem refTo_bad {l : List Ev} {o r : List Int} {i : Nat} (h : refTo l o i = some r) (hk : ¬ okAt0 l o r i) : refTo l o (i + 1) = none := by
  cases e : refTo l o (i + 1) with
  | none => rfl
  | some r2 =>
    obtain ⟨r', e1, e2, _⟩ := refTo_inv e
    rw [h] at e1; injection e1 with e1; subst e1
    exact (hk e2).elim

theorem refTo_none {l : List Ev} {o : List Int} {i : Nat} (h : refTo l o i = none) : ∀ n, refTo l o (i + n) = none
  | 0 => h
  | n + 1 => by rw [← Nat.add_assoc]; simp only [refTo, refTo_none h n]

theorem refTo_len {l : List Ev} {o : List Int} : ∀ {i : Nat} {r : List Int}, refTo l o i = some r → r.length = l.length
  | 0, r, h => by simp only [refTo, Option.some.injEq] at h; subst h; simp
  | i + 1, r, h => by
    obtain ⟨r', e, _, rfl⟩ := refTo_inv h
    rw [List.length_set]; exact refTo_len e

theorem refM_bad {l : List Ev} {o r : List Int} {i : Nat} (hi : i < o.length) (h : refTo l o i = some r) (hk : ¬ okAt0 l o r i) : refCheckM l o = 2 := by
  have h1 := refTo_none (refTo_bad h hk) (o.length - (i + 1))
  have e : i + 1 + (o.length - (i + 1)) = o.length := by omega
  rw [e] at h1
  simp only [refCheckM, h1]

theorem undone0_succ {l : List Ev} {r : List Int} {i : Nat} : undone0 l r (i + 1) = (undone0 l r i || ((l.getD i dEv).Done && r.getD i 0 == 0)) := by simp [undone0, List.range_succ]
theorem undone0_more {l : List Ev} {r : List Int} {i n : Nat} (h : undone0 l r i = true) (hn : i ≤ n) : undone0 l r n = true := by
  obtain ⟨m, rfl⟩ : ∃ m, n = i + m := ⟨n - i, by omega⟩
  clear hn
  induction m with
  | zero => exact h
  | succ m ih => rw [← Nat.add_assoc, undone0_succ, ih]; rfl
theorem rbadRow_succ {l : List Ev} {r : List Int} {i j : Nat} : rbadRow l r i (j + 1) = (rbadRow l r i j || rbadAt l r i j) := by simp [rbadRow, List.range_succ]
theorem rbadTo_succ {l : List Ev} {r : List Int} {i : Nat} : rbadTo l r (i + 1) = (rbadTo l r i || rbadRow l r i l.length) := by simp [rbadTo, List.range_succ]
theorem rbadRow_more {l : List Ev} {r : List Int} {i j n : Nat} (h : rbadRow l r i j = true) (hn : j ≤ n) : rbadRow l r i n = true := by
  obtain ⟨m, rfl⟩ : ∃ m, n = j + m := ⟨n - j, by omega⟩
  clear hn
  induction m with
  | zero => exact h
  | succ m ih => rw [← Nat.add_assoc, rbadRow_succ, ih]; rfl
theorem rbadTo_more {l : List Ev} {r : List Int} {i n : Nat} (h : rbadTo l r i = true) (hn : i ≤ n) : rbadTo l r n = true := by
  obtain ⟨m, rfl⟩ : ∃ m, n = i + m := ⟨n - i, by omega⟩
  clear hn
  induction m with
  | zero => exact h
  | succ m ih => rw [← Nat.add_assoc, rbadTo_succ, ih]; rfl

theorem sig30_ok : ∀ g s, sig30 g = some s → SpecOK Try.prog elTT g s := by
  intro g s hs
  unfold sig30 at hs
  cases e2 : Nat.beq g 16 with
  | true => rw [e2] at hs; injection hs with hs; subst hs; rw [Nat.eq_of_beq_eq_true e2]; exact refAhead_ok
  | false => rw [e2] at hs; cases hs

theorem refCheck_ok : SpecOK Try.prog elTT 30 (checkS refCheckM) := by
  refine spec_of_exF (cfg := cfg30) (cfg_ok rfl rfl rfl) sig30_ok (fn := Try.f30) (by kernel_rfl) (by kernel_rfl) (by kernel_rfl) ?_
  intro args H K h
  obtain ⟨l, o, rfl, rfl, hl, ho, hk⟩ := checkS_elim h
  refine Eq.mpr (nf30 l o K) (Req_intro (by simp; omega) ?_)
  have e0 : List.replicate (Int.toNat (l.length : Int)) (0 : Int) = List.replicate l.length 0 := by rw [Int.toNat_natCast]
  rw [e0]
  refine loop_ind (σ := Nat × List Int) (fun s => mkEnv [(0, .row 0), (1, .row 1), (5, .row 2), (6, vi s.1)]) (fun s => [.row 3 l true, .row 0 o true, .row 0 s.2 false])
    (fun s => s.1 ≤ o.length ∧ refTo l o s.1 = some s.2) (fun s => o.length - s.1) ?_ (0, _) ⟨Nat.zero_le _, rfl⟩
  intro ⟨i, r⟩ ⟨hi, hr⟩ J hJ
  simp only at hi hr
  refine Eq.mpr (nf30a l o r i K J) (br_intro (fun h1 => ?_) (fun h1 => ?_))
  · have h1 : i < o.length := by simpa using h1
    have hrl := refTo_len hr
    refine Req_intro (inR_nat h1) (Req_intro (inR_nat h1) ?_)
    simp only [offs, Int.toNat_natCast]
    have bad : ¬ okAt0 l o r i → K (vi 2) [.row 3 l true, .row 0 o true] := fun hb => by rw [refM_bad h1 hr hb] at hk; exact hk
    refine br_intro (fun h2 => bad fun hk => ?_) (fun h2 => ?_)
    · have := hk.1; simp at h2; simp at this; omega
    refine br_intro (fun h3 => bad fun hk => ?_) (fun h3 => ?_)
    · have := hk.2.1; simp at h3; simp at this; omega
    have hp : 0 ≤ o.getD i 0 ∧ o.getD i 0 < (l.length : Int) := by
      have a := of_decide_eq_false h2; have b := of_decide_eq_false h3; exact ⟨Int.not_lt.1 a, Int.not_le.1 b⟩
    have q1 : inR (o.getD i 0) r.length = true := inR_int hp.1 (by omega)
    have q2 : inR (o.getD i 0) l.length = true := inR_int hp.1 (by omega)
    refine Req_intro q1 (Req_intro q1 ?_)
    refine br_intro (fun h4 => bad fun hk => ?_) (fun h4 => ?_)
    · have := hk.2.2.1; rw [this] at h4; simp at h4
    refine Req_intro q2 (Req_intro q2 ?_)
    refine br_intro (fun h5 => bad fun hk => ?_) (fun h5 => ?_)
    · have := hk.2.2.2; rw [this] at h5; cases h5
    refine Req_intro q1 (Req_intro q1 ?_)
    have hx := refTo_ok hr ⟨hp.1, hp.2, by simpa using h4, by simpa using h5⟩
    rw [wrap_succ (by omega)]
    exact hJ (i + 1, _) ⟨h1, hx⟩ (by simp; omega)
  · have h1 : i = o.length := by simp at h1; omega
    subst h1
    clear hJ hi J
    have hrl := refTo_len hr
    unfold refCheckM at hk
    rw [hr] at hk
    simp only at hk
    refine loop_ind (σ := Nat) (fun i => mkEnv [(0, .row 0), (1, .row 1), (5, .row 2), (8, vi i)]) (fun _ => [.row 3 l true, .row 0 o true, .row 0 r false])
      (fun i => i ≤ l.length ∧ undone0 l r i = false) (fun i => l.length - i) ?_ 0 ⟨Nat.zero_le _, rfl⟩
    intro i ⟨hi, hu⟩ J hJ
    refine Eq.mpr (nf30b l o r i K J) (br_intro (fun h1 => ?_) (fun h1 => ?_))
    · have h1 : i < l.length := by simpa using h1
      refine Req_intro (inR_nat h1) (Req_intro (inR_nat h1) ?_)
      simp only [offs, Int.toNat_natCast]
      have next : undone0 l r (i + 1) = false → J (mkEnv [(0, .row 0), (1, .row 1), (5, .row 2), (8, vi (IntKind.i64.wrap ((i : Int) + 1)))]) [.row 3 l true, .row 0 o true, .row 0 r false] := by
        rw [wrap_succ (by omega)]
        exact fun h => hJ (i + 1) ⟨h1, h⟩ (by omega)
      refine br_intro (fun h2 => Req_intro (inR_nat (by omega)) (Req_intro (inR_nat (by omega)) (br_intro (fun h3 => ?_) (fun h3 => next ?_)))) (fun h2 => next ?_)
      · have : undone0 l r (i + 1) = true := by rw [undone0_succ, hu, h2, h3]; rfl
        rw [undone0_more this h1] at hk
        exact hk
      · rw [undone0_succ, hu, h3]; simp
      · rw [undone0_succ, hu, h2]; rfl
    · have h1 : i = l.length := by simp at h1; omega
      subst h1
      rw [hu] at hk
      simp only at hk
      clear hJ hi J
      refine loop_ind (σ := Nat) (fun i => mkEnv [(0, .row 0), (1, .row 1), (5, .row 2), (9, vi i)]) (fun _ => [.row 3 l true, .row 0 o true, .row 0 r false])
        (fun i => i ≤ l.length ∧ rbadTo l r i = false) (fun i => l.length - i) ?_ 0 ⟨Nat.zero_le _, rfl⟩
      intro i ⟨hi, hb⟩ J hJ
      refine Eq.mpr (nf30c l o r i K J) (br_intro (fun h1 => ?_) (fun h1 => ?_))
      · have h1 : i < l.length := by simpa using h1
        refine loop_ind (σ := Nat) (fun j => mkEnv [(0, .row 0), (1, .row 1), (5, .row 2), (9, vi i), (10, vi j)])
          (fun _ => [.row 3 l true, .row 0 o true, .row 0 r false]) (fun j => j ≤ l.length ∧ rbadRow l r i j = false) (fun j => l.length - j) ?_ 0 ⟨Nat.zero_le _, rfl⟩
        intro j ⟨hj, hbj⟩ J2 hJ2
        refine Eq.mpr (nf30d l o r i j K J J2) (br_intro (fun h2 => ?_) (fun h2 => ?_))
        · have h2 : j < l.length := by simpa using h2
          have i1 : inR (i : Int) r.length = true := inR_nat (by omega)
          have i2 : inR (j : Int) r.length = true := inR_nat (by omega)
          have i3 : inR (i : Int) l.length = true := inR_nat (by omega)
          have i4 : inR (j : Int) l.length = true := inR_nat (by omega)
          simp only [offs, Int.toNat_natCast] at *
          have next : rbadAt l r i j = false → J2 (mkEnv [(0, .row 0), (1, .row 1), (5, .row 2), (9, vi i), (10, vi (IntKind.i64.wrap ((j : Int) + 1)))]) [.row 3 l true, .row 0 o true, .row 0 r false] := by
            rw [wrap_succ (by omega)]
            exact fun h => hJ2 (j + 1) ⟨h2, by rw [rbadRow_succ, hbj, h]; rfl⟩ (by omega)
          refine Req_intro i1 (Req_intro i1 (br_intro (fun c1 => Req_intro i2 (Req_intro i2 (br_intro (fun c2 => Req_intro i3 (Req_intro i3 (Req_intro i4 (Req_intro i4 (br_intro (fun c3 => Req_intro i2 (Req_intro i2 (Req_intro i1 (Req_intro i1 (br_intro (fun c4 => ?_) (fun c4 => next ?_)))))) (fun c3 => next ?_)))))) (fun c2 => next ?_)))) (fun c1 => next ?_)))
          · have c4' : decide (r.getD j 0 < r.getD i 0) = true := c4
            have e0 : rbadAt l r i j = true := by unfold rbadAt; rw [c1, c2, c3, c4']; rfl
            have e1 : rbadRow l r i (j + 1) = true := by rw [rbadRow_succ, hbj, e0]; rfl
            have e2 : rbadTo l r (i + 1) = true := by rw [rbadTo_succ, rbadRow_more e1 h2]; simp
            rw [rbadTo_more e2 h1] at hk
            exact hk
          · have c4' : decide (r.getD j 0 < r.getD i 0) = false := c4
            unfold rbadAt; rw [c1, c2, c3, c4']; rfl
          · unfold rbadAt; rw [c1, c2, c3]; rfl
          · unfold rbadAt; rw [c1, c2]; rfl
          · unfold rbadAt; rw [c1]; rfl
        · have h2 : j = l.length := by simp at h2; omega
          subst h2
          rw [wrap_succ (by omega)]
          exact hJ (i + 1) ⟨h1, by rw [rbadTo_succ, hb, hbj]; rfl⟩ (by omega)
      · have h1 : i = l.length := by simp at h1; omega
        subst h1
        rw [hb] at hk
        exact hk
end Go.Rx
