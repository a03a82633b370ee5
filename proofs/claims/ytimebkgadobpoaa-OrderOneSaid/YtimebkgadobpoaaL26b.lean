/- Places of calls in an order, plainly. -/
import Derived.Test.YtimebkgadobpoaaC26d
namespace Go.Rx

def okAt (l : List Ev) (o r : List Int) (i : Nat) : Prop := 0 ≤ o.getD i 0 ∧ o.getD i 0 < (l.length : Int) ∧ r.getD (o.getD i 0).toNat 0 = -1 ∧ (l.getD (o.getD i 0).toNat dEv).Sure = true

theorem rankTo_ok {l : List Ev} {o r : List Int} {i : Nat} (h : rankTo l o i = some r) (hk : okAt l o r i) : rankTo l o (i + 1) = some (r.set (o.getD i 0).toNat (i : Int)) := by
  obtain ⟨h1, h2, h3, h4⟩ := hk
  simp only [rankTo, h]
  have e1 : decide (o.getD i 0 < 0) = false := by simp only [decide_eq_false_iff_not]; omega
  have e2 : decide (o.getD i 0 ≥ (l.length : Int)) = false := by simp only [decide_eq_false_iff_not]; omega
  rw [e1, e2, h3, h4]
  rfl

theorem rankTo_inv {l : List Ev} {o r : List Int} {i : Nat} (h : rankTo l o (i + 1) = some r) : ∃ r', rankTo l o i = some r' ∧ okAt l o r' i ∧ r = r'.set (o.getD i 0).toNat (i : Int) := by
  simp only [rankTo] at h
  split at h
  · cases h
  · rename_i r' e
    split at h
    · cases h
    · rename_i e2
      injection h with h
      simp only [Bool.or_eq_false_iff, decide_eq_false_iff_not, bne_eq_false_iff_eq, Bool.not_eq_false'] at e2
      obtain ⟨a1, a2, a3, a4⟩ := e2
      exact ⟨r', e, ⟨by omega, by omega, a3, a4⟩, h.symm⟩

theorem rankTo_bad {l : List Ev} {o r : List Int} {i : Nat} (h : rankTo l o i = some r) (hk : ¬ okAt l o r i) : rankTo l o (i + 1) = none := by
  cases e : rankTo l o (i + 1) with
  | none => rfl
  | some r2 =>
    obtain ⟨r', e1, e2, _⟩ := rankTo_inv e
    rw [h] at e1; injection e1 with e1; subst e1
    exact (hk e2).elim

theorem rankTo_none {l : List Ev} {o : List Int} {i : Nat} (h : rankTo l o i = none) : ∀ n, rankTo l o (i + n) = none
  | 0 => h
  | n + 1 => by rw [← Nat.add_assoc]; simp only [rankTo, rankTo_none h n]

theorem rankTo_len {l : List Ev} {o : List Int} : ∀ {i : Nat} {r : List Int}, rankTo l o i = some r → r.length = l.length
  | 0, r, h => by simp only [rankTo, Option.some.injEq] at h; subst h; simp
  | i + 1, r, h => by
    obtain ⟨r', e, _, rfl⟩ := rankTo_inv h
    rw [List.length_set]; exact rankTo_len e

theorem rankM_bad {l : List Ev} {o r : List Int} {i : Nat} (hi : i < o.length) (h : rankTo l o i = some r) (hk : ¬ okAt l o r i) : rankM l o = none := by
  have h1 := rankTo_none (rankTo_bad h hk) (o.length - (i + 1))
  have e : i + 1 + (o.length - (i + 1)) = o.length := by omega
  rw [e] at h1
  simp only [rankM, h1]

theorem rankTo_ent {l : List Ev} {o : List Int} : ∀ {i : Nat} {r : List Int}, rankTo l o i = some r → ∀ j < i, 0 ≤ o.getD j 0 ∧ o.getD j 0 < (l.length : Int)
  | 0, r, h, j, hj => by omega
  | i + 1, r, h, j, hj => by
    obtain ⟨r', e, hk, _⟩ := rankTo_inv h
    by_cases h1 : j = i
    · subst h1; exact ⟨hk.1, hk.2.1⟩
    · exact rankTo_ent e j (by omega)

theorem undone_succ {l : List Ev} {r : List Int} {i : Nat} : undone l r (i + 1) = (undone l r i || ((l.getD i dEv).Done && r.getD i 0 == -1)) := by simp [undone, List.range_succ]
theorem undone_more {l : List Ev} {r : List Int} {i n : Nat} (h : undone l r i = true) (hn : i ≤ n) : undone l r n = true := by
  obtain ⟨m, rfl⟩ : ∃ m, n = i + m := ⟨n - i, by omega⟩
  clear hn
  induction m with
  | zero => exact h
  | succ m ih => rw [← Nat.add_assoc, undone_succ, ih]; rfl

theorem rankM_some {l : List Ev} {o r : List Int} (h : rankM l o = some r) : rankTo l o o.length = some r ∧ undone l r l.length = false := by
  unfold rankM at h
  split at h
  · cases h
  · rename_i r' e
    split at h
    · cases h
    · rename_i e2; injection h with h; subst h; exact ⟨e, e2⟩

/-- All so far told as no place. -/
def minusTo (n i : Nat) : List Int := List.replicate i (-1) ++ List.replicate (n - i) 0
theorem minus_zero {n : Nat} : minusTo n 0 = List.replicate n 0 := by simp [minusTo]
theorem minus_all {n : Nat} : minusTo n n = List.replicate n (-1) := by simp [minusTo]
theorem minus_len {n i : Nat} (h : i ≤ n) : (minusTo n i).length = n := by simp [minusTo]; omega
theorem minus_set {n i : Nat} (h : i < n) : (minusTo n i).set i (-1) = minusTo n (i + 1) := by
  unfold minusTo
  rw [List.set_append_right _ _ (by simp)]
  obtain ⟨m, hm⟩ : ∃ m, n - i = m + 1 := ⟨n - i - 1, by omega⟩
  have e2 : n - (i + 1) = m := by omega
  rw [hm, e2, List.replicate_succ, List.replicate_succ' (n := i)]
  simp

end Go.Rx
