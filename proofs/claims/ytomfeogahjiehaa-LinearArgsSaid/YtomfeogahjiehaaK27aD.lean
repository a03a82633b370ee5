/- What the row's text of this claim stands on, part 4: the symbolic executor, contracts of the program's functions, plain facts. No condition. -/
import Derived.Test.YtomfeogahjiehaaK27aC
section
namespace Go.Rx
open Go.Proofs
namespace E26
open E25
def lessM (a b : Ev) : Bool :=
  match a.Stamp != b.Stamp with
  | true => decide (a.Stamp < b.Stamp)
  | false => match !(a.Wrote == b.Wrote) with
    | true => a.Wrote
    | false => match a.Done with
      | true => match b.Done with
        | true => decide (a.End < b.End)
        | false => true
      | false => false
def insM (p : Int → Bool) (x : Int) (out : List Int) : List Int := (out.reverse.dropWhile p).reverse ++ x :: (out.reverse.takeWhile p).reverse
def pM (l : List Ev) (i : Nat) (j : Int) : Bool := lessM (l.getD i dEv) (l.getD j.toNat dEv)
def sortStep (l : List Ev) (out : List Int) (i : Nat) : List Int :=
  match (l.getD i dEv).Sure with
  | true => insM (pM l i) i out
  | false => out
def sortTo (l : List Ev) (n : Nat) : List Int := (List.range n).foldl (sortStep l) []
def sortM (l : List Ev) : List Int := sortTo l l.length
theorem sortTo_zero (l : List Ev) : sortTo l 0 = [] := rfl
theorem sortTo_succ (l : List Ev) (n : Nat) : sortTo l (n + 1) = sortStep l (sortTo l n) n := by simp [sortTo, List.range_succ]
theorem takeWhile_append_all {α : Type} (p : α → Bool) : ∀ (a b : List α), (∀ x ∈ a, p x = true) → (a ++ b).takeWhile p = a ++ b.takeWhile p ∧ (a ++ b).dropWhile p = b.dropWhile p
  | [], _, _ => ⟨rfl, rfl⟩
  | x :: a, b, h => by
    have hx := h x (by simp)
    have ih := takeWhile_append_all p a b (fun y hy => h y (by simp [hy]))
    simp [hx, ih.1, ih.2]
theorem insM_at {p : Int → Bool} {x : Int} {out : List Int} {k : Nat} (hk : k ≤ out.length) (h1 : ∀ j ∈ out.drop k, p j = true) (h2 : k = 0 ∨ p (out.getD (k - 1) 0) = false) :
    insM p x out = out.take k ++ x :: out.drop k := by
  unfold insM
  have e : out.reverse = (out.drop k).reverse ++ (out.take k).reverse := by rw [← List.reverse_append, List.take_append_drop]
  obtain ⟨e1, e2⟩ := takeWhile_append_all p (out.drop k).reverse (out.take k).reverse (fun y hy => h1 y (by simpa using hy))
  rw [e, e1, e2]
  have e3 : (out.take k).reverse.takeWhile p = [] ∧ (out.take k).reverse.dropWhile p = (out.take k).reverse := by
    rcases h2 with rfl | h2
    · simp
    · cases k with
      | zero => simp
      | succ k =>
        have hlt : k < out.length := by omega
        rw [List.take_succ_eq_append_getElem hlt, List.reverse_append]
        simp only [Nat.add_sub_cancel, List.getD, List.getElem?_eq_getElem hlt, Option.getD_some] at h2
        simp [h2]
  rw [e3.1, e3.2]
  simp
theorem insM_mem {p : Int → Bool} {x y : Int} {out : List Int} : y ∈ insM p x out ↔ y = x ∨ y ∈ out := by
  unfold insM
  have e : y ∈ out ↔ y ∈ out.reverse.takeWhile p ∨ y ∈ out.reverse.dropWhile p := by
    rw [← List.mem_append, List.takeWhile_append_dropWhile, List.mem_reverse]
  rw [e]
  simp only [List.mem_append, List.mem_reverse, List.mem_cons]
  constructor
  · rintro (h | h | h)
    · exact .inr (.inr h)
    · exact .inl h
    · exact .inr (.inl h)
  · rintro (h | h | h)
    · exact .inr (.inl h)
    · exact .inr (.inr h)
    · exact .inl h
theorem insM_len {p : Int → Bool} {x : Int} {out : List Int} : (insM p x out).length = out.length + 1 := by
  unfold insM
  have e := congrArg List.length (List.takeWhile_append_dropWhile (p := p) (l := out.reverse))
  rw [List.length_append, List.length_reverse] at e
  simp only [List.length_append, List.length_reverse, List.length_cons]
  omega
theorem sortTo_mem (l : List Ev) : ∀ (n : Nat) (j : Int), j ∈ sortTo l n → 0 ≤ j ∧ j < (n : Int) ∧ (l.getD j.toNat dEv).Sure = true
  | 0, j, h => by simp [sortTo_zero] at h
  | n + 1, j, h => by
    rw [sortTo_succ] at h
    unfold sortStep at h
    split at h
    · rename_i hs
      rcases insM_mem.1 h with rfl | h
      · exact ⟨by omega, by omega, by simpa using hs⟩
      · obtain ⟨h1, h2, h3⟩ := sortTo_mem l n j h
        exact ⟨h1, by omega, h3⟩
    · obtain ⟨h1, h2, h3⟩ := sortTo_mem l n j h
      exact ⟨h1, by omega, h3⟩
theorem sortTo_len (l : List Ev) : ∀ (n : Nat), (sortTo l n).length ≤ n
  | 0 => by simp [sortTo_zero]
  | n + 1 => by
    rw [sortTo_succ]
    have := sortTo_len l n
    unfold sortStep
    split
    · rw [insM_len]; omega
    · omega
def midM (x : Int) (out : List Int) (k : Nat) : List Int := out.take k ++ x :: out.drop k
theorem mid_len {x : Int} {out : List Int} {k : Nat} (hk : k ≤ out.length) : (midM x out k).length = out.length + 1 := by simp [midM]; omega
theorem mid_below {x : Int} {out : List Int} {k j : Nat} (hk : k ≤ out.length) (hj : j < k) : (midM x out k).getD j 0 = out.getD j 0 := by
  unfold midM
  simp only [List.getD]
  rw [List.getElem?_append_left (by simp; omega), List.getElem?_take, if_pos hj]
theorem mid_at {x : Int} {out : List Int} {k : Nat} (hk : k ≤ out.length) : (midM x out k).getD k 0 = x := by
  unfold midM
  simp only [List.getD]
  rw [List.getElem?_append_right (by simp; omega)]
  have : min k out.length = k := by omega
  simp [this]
theorem mid_swap {x : Int} {out : List Int} {k : Nat} (hk : k + 1 ≤ out.length) : ((midM x out (k + 1)).set (k + 1) (out.getD k 0)).set k x = midM x out k := by
  apply List.ext_getElem?
  intro j
  have hm : min (k + 1) out.length = k + 1 := by omega
  have hm2 : min k out.length = k := by omega
  have hg : out.getD k 0 = out[k] := by simp [List.getD, List.getElem?_eq_getElem (show k < out.length by omega)]
  unfold midM
  rw [List.getElem?_set, List.getElem?_set]
  simp only [List.length_set, List.length_append, List.length_cons, List.length_take, List.length_drop, hm]
  by_cases h1 : k = j
  · subst h1
    rw [if_pos rfl, if_pos (by omega), List.getElem?_append_right (by simp; omega)]
    simp [hm2]
  · rw [if_neg h1]
    by_cases h2 : k + 1 = j
    · subst h2
      rw [if_pos rfl, if_pos (by omega), List.getElem?_append_right (by simp; omega)]
      simp [hm2, List.getElem?_eq_getElem (show k < out.length by omega)]
    · rw [if_neg h2]
      rcases Nat.lt_or_ge j k with h | h
      · rw [List.getElem?_append_left (by simp; omega), List.getElem?_append_left (by simp; omega), List.getElem?_take, List.getElem?_take, if_pos (by omega), if_pos (by omega)]
      · rw [List.getElem?_append_right (by simp; omega), List.getElem?_append_right (by simp; omega)]
        simp only [List.length_take, hm, hm2]
        have e1 : j - (k + 1) = (j - (k + 2)) + 1 := by omega
        have e2 : j - k = (j - (k + 2)) + 2 := by omega
        rw [e1, e2]
        simp only [List.getElem?_cons_succ, List.getElem?_drop]
        congr 1
        omega
def rankTo (l : List Ev) (o : List Int) : Nat → Option (List Int)
  | 0 => some (List.replicate l.length (-1))
  | i + 1 => match rankTo l o i with
    | none => none
    | some r => match decide (o.getD i 0 < 0) || (decide (o.getD i 0 ≥ (l.length : Int)) || (r.getD (o.getD i 0).toNat 0 != -1 || !(l.getD (o.getD i 0).toNat dEv).Sure)) with
      | true => none
      | false => some (r.set (o.getD i 0).toNat (i : Int))
def undone (l : List Ev) (r : List Int) (n : Nat) : Bool := (List.range n).any fun p => (l.getD p dEv).Done && r.getD p 0 == -1
def rankM (l : List Ev) (o : List Int) : Option (List Int) :=
  match rankTo l o o.length with
  | none => none
  | some r => match undone l r l.length with
    | true => none
    | false => some r
def badAt (l : List Ev) (o r : List Int) (i j : Nat) : Bool :=
  aheadM (l.getD (o.getD i 0).toNat dEv) (l.getD (o.getD j 0).toNat dEv) && decide (r.getD (o.getD j 0).toNat 0 < r.getD (o.getD i 0).toNat 0)
def badTo (l : List Ev) (o r : List Int) (n : Nat) : Bool := (List.range n).any fun i => (List.range i).any fun j => badAt l o r i j
def checkM (l : List Ev) (o : List Int) : Int :=
  match rankM l o with
  | none => 2
  | some r => match badTo l o r o.length with
    | true => 17
    | false => 0
def refTo (l : List Ev) (o : List Int) : Nat → Option (List Int)
  | 0 => some (List.replicate l.length 0)
  | i + 1 => match refTo l o i with
    | none => none
    | some r => match decide (o.getD i 0 < 0) || (decide (o.getD i 0 ≥ (l.length : Int)) || (r.getD (o.getD i 0).toNat 0 != 0 || !(l.getD (o.getD i 0).toNat dEv).Sure)) with
      | true => none
      | false => some (r.set (o.getD i 0).toNat ((i : Int) + 1))
def undone0 (l : List Ev) (r : List Int) (n : Nat) : Bool := (List.range n).any fun p => (l.getD p dEv).Done && r.getD p 0 == 0
def rbadAt (l : List Ev) (r : List Int) (i j : Nat) : Bool :=
  r.getD i 0 != 0 && (r.getD j 0 != 0 && (aheadM (l.getD i dEv) (l.getD j dEv) && decide (r.getD j 0 < r.getD i 0)))
def rbadRow (l : List Ev) (r : List Int) (i n : Nat) : Bool := (List.range n).any fun j => rbadAt l r i j
def rbadTo (l : List Ev) (r : List Int) (n : Nat) : Bool := (List.range n).any fun i => rbadRow l r i l.length
def refCheckM (l : List Ev) (o : List Int) : Int :=
  match refTo l o o.length with
  | none => 2
  | some r => match undone0 l r l.length with
    | true => 2
    | false => match rbadTo l r l.length with
      | true => 17
      | false => 0
def okAt (l : List Ev) (o r : List Int) (i : Nat) : Prop := 0 ≤ o.getD i 0 ∧ o.getD i 0 < (l.length : Int) ∧ r.getD (o.getD i 0).toNat 0 = -1 ∧ (l.getD (o.getD i 0).toNat dEv).Sure = true
theorem rankTo_ok {l : List Ev} {o r : List Int} {i : Nat} (h : rankTo l o i = some r) (hk : okAt l o r i) : rankTo l o (i + 1) = some (r.set (o.getD i 0).toNat (i : Int)) := by
  obtain ⟨h1, h2, h3, h4⟩ := hk
  simp only [rankTo, h]
  have e1 : decide (o.getD i 0 < 0) = false := by simp only [decide_eq_false_iff_not]; omega
  have e2 : decide (o.getD i 0 ≥ (l.length : Int)) = false := by simp only [decide_eq_false_iff_not]; omega
  rw [e1, e2, h3, h4]
  rfl
theorem rankTo_inv {l : List Ev} {o r : List Int} {i : Nat} (h : rankTo l o (i + 1) = some r) : ∃ r', rankTo l o i = some r' ∧ okAt l o r' i ∧ r = r'.set (o.getD i 0).toNat (i : Int) := by
  simp only [rankTo] at h
  split at h
  · cases h
  · rename_i r' e
    split at h
    · cases h
    · rename_i e2
      injection h with h
      simp only [Bool.or_eq_false_iff, decide_eq_false_iff_not, bne_eq_false_iff_eq, Bool.not_eq_false'] at e2
      obtain ⟨a1, a2, a3, a4⟩ := e2
      exact ⟨r', e, ⟨by omega, by omega, a3, a4⟩, h.symm⟩
theorem rankTo_bad {l : List Ev} {o r : List Int} {i : Nat} (h : rankTo l o i = some r) (hk : ¬ okAt l o r i) : rankTo l o (i + 1) = none := by
  cases e : rankTo l o (i + 1) with
  | none => rfl
  | some r2 =>
    obtain ⟨r', e1, e2, _⟩ := rankTo_inv e
    rw [h] at e1; injection e1 with e1; subst e1
    exact (hk e2).elim
theorem rankTo_none {l : List Ev} {o : List Int} {i : Nat} (h : rankTo l o i = none) : ∀ n, rankTo l o (i + n) = none
  | 0 => h
  | n + 1 => by rw [← Nat.add_assoc]; simp only [rankTo, rankTo_none h n]
theorem rankTo_len {l : List Ev} {o : List Int} : ∀ {i : Nat} {r : List Int}, rankTo l o i = some r → r.length = l.length
  | 0, r, h => by simp only [rankTo, Option.some.injEq] at h; subst h; simp
  | i + 1, r, h => by
    obtain ⟨r', e, _, rfl⟩ := rankTo_inv h
    rw [List.length_set]; exact rankTo_len e
theorem rankM_bad {l : List Ev} {o r : List Int} {i : Nat} (hi : i < o.length) (h : rankTo l o i = some r) (hk : ¬ okAt l o r i) : rankM l o = none := by
  have h1 := rankTo_none (rankTo_bad h hk) (o.length - (i + 1))
  have e : i + 1 + (o.length - (i + 1)) = o.length := by omega
  rw [e] at h1
  simp only [rankM, h1]
theorem rankTo_ent {l : List Ev} {o : List Int} : ∀ {i : Nat} {r : List Int}, rankTo l o i = some r → ∀ j < i, 0 ≤ o.getD j 0 ∧ o.getD j 0 < (l.length : Int)
  | 0, r, h, j, hj => by omega
  | i + 1, r, h, j, hj => by
    obtain ⟨r', e, hk, _⟩ := rankTo_inv h
    by_cases h1 : j = i
    · subst h1; exact ⟨hk.1, hk.2.1⟩
    · exact rankTo_ent e j (by omega)
theorem undone_succ {l : List Ev} {r : List Int} {i : Nat} : undone l r (i + 1) = (undone l r i || ((l.getD i dEv).Done && r.getD i 0 == -1)) := by simp [undone, List.range_succ]
theorem undone_more {l : List Ev} {r : List Int} {i n : Nat} (h : undone l r i = true) (hn : i ≤ n) : undone l r n = true := by
  obtain ⟨m, rfl⟩ : ∃ m, n = i + m := ⟨n - i, by omega⟩
  clear hn
  induction m with
  | zero => exact h
  | succ m ih => rw [← Nat.add_assoc, undone_succ, ih]; rfl
theorem rankM_some {l : List Ev} {o r : List Int} (h : rankM l o = some r) : rankTo l o o.length = some r ∧ undone l r l.length = false := by
  unfold rankM at h
  split at h
  · cases h
  · rename_i r' e
    split at h
    · cases h
    · rename_i e2; injection h with h; subst h; exact ⟨e, e2⟩
def minusTo (n i : Nat) : List Int := List.replicate i (-1) ++ List.replicate (n - i) 0
theorem minus_zero {n : Nat} : minusTo n 0 = List.replicate n 0 := by simp [minusTo]
theorem minus_all {n : Nat} : minusTo n n = List.replicate n (-1) := by simp [minusTo]
theorem minus_len {n i : Nat} (h : i ≤ n) : (minusTo n i).length = n := by simp [minusTo]; omega
theorem minus_set {n i : Nat} (h : i < n) : (minusTo n i).set i (-1) = minusTo n (i + 1) := by
  unfold minusTo
  rw [List.set_append_right _ _ (by simp)]
  obtain ⟨m, hm⟩ : ∃ m, n - i = m + 1 := ⟨n - i - 1, by omega⟩
  have e2 : n - (i + 1) = m := by omega
  rw [hm, e2, List.replicate_succ, List.replicate_succ' (n := i)]
  simp
def okAt0 (l : List Ev) (o r : List Int) (i : Nat) : Prop := 0 ≤ o.getD i 0 ∧ o.getD i 0 < (l.length : Int) ∧ r.getD (o.getD i 0).toNat 0 = 0 ∧ (l.getD (o.getD i 0).toNat dEv).Sure = true
theorem refTo_ok {l : List Ev} {o r : List Int} {i : Nat} (h : refTo l o i = some r) (hk : okAt0 l o r i) : refTo l o (i + 1) = some (r.set (o.getD i 0).toNat ((i : Int) + 1)) := by
  obtain ⟨h1, h2, h3, h4⟩ := hk
  simp only [refTo, h]
  have e1 : decide (o.getD i 0 < 0) = false := by simp only [decide_eq_false_iff_not]; omega
  have e2 : decide (o.getD i 0 ≥ (l.length : Int)) = false := by simp only [decide_eq_false_iff_not]; omega
  rw [e1, e2, h3, h4]
  rfl
theorem refTo_inv {l : List Ev} {o r : List Int} {i : Nat} (h : refTo l o (i + 1) = some r) : ∃ r', refTo l o i = some r' ∧ okAt0 l o r' i ∧ r = r'.set (o.getD i 0).toNat ((i : Int) + 1) := by
  simp only [refTo] at h
  split at h
  · cases h
  · rename_i r' e
    split at h
    · cases h
    · rename_i e2
      injection h with h
      simp only [Bool.or_eq_false_iff, decide_eq_false_iff_not, bne_eq_false_iff_eq, Bool.not_eq_false'] at e2
      obtain ⟨a1, a2, a3, a4⟩ := e2
      exact ⟨r', e, ⟨by omega, by omega, a3, a4⟩, h.symm⟩
theorem refTo_bad {l : List Ev} {o r : List Int} {i : Nat} (h : refTo l o i = some r) (hk : ¬ okAt0 l o r i) : refTo l o (i + 1) = none := by
  cases e : refTo l o (i + 1) with
  | none => rfl
  | some r2 =>
    obtain ⟨r', e1, e2, _⟩ := refTo_inv e
    rw [h] at e1; injection e1 with e1; subst e1
    exact (hk e2).elim
theorem refTo_none {l : List Ev} {o : List Int} {i : Nat} (h : refTo l o i = none) : ∀ n, refTo l o (i + n) = none
  | 0 => h
  | n + 1 => by rw [← Nat.add_assoc]; simp only [refTo, refTo_none h n]
theorem refTo_len {l : List Ev} {o : List Int} : ∀ {i : Nat} {r : List Int}, refTo l o i = some r → r.length = l.length
  | 0, r, h => by simp only [refTo, Option.some.injEq] at h; subst h; simp
  | i + 1, r, h => by
    obtain ⟨r', e, _, rfl⟩ := refTo_inv h
    rw [List.length_set]; exact refTo_len e
theorem getD_lt {l : List Int} {k : Nat} (h : k < l.length) : l.getD k 0 = l[k] := by simp [List.getD, List.getElem?_eq_getElem h]
theorem getD_map1 {r : List Int} {k : Nat} (h : k < r.length) : (r.map (· + 1)).getD k 0 = r.getD k 0 + 1 := by
  rw [getD_lt (by simpa using h), getD_lt h, List.getElem_map]
theorem rank_ref {l : List Ev} {o : List Int} : ∀ i, (rankTo l o i = none ∧ refTo l o i = none) ∨ (∃ r, rankTo l o i = some r ∧ refTo l o i = some (r.map (· + 1)) ∧ ∀ x ∈ r, -1 ≤ x)
  | 0 => .inr ⟨_, rfl, by simp [refTo], by intro x hx; simp at hx; omega⟩
  | i + 1 => by
    rcases rank_ref i with ⟨h1, h2⟩ | ⟨r, h1, h2, h3⟩
    · exact .inl ⟨rankTo_none h1 1, refTo_none h2 1⟩
    · have hl := rankTo_len h1
      have hiff : okAt l o r i ↔ okAt0 l o (r.map (· + 1)) i := by
        unfold okAt okAt0
        constructor
        · rintro ⟨a, b, c, d⟩
          have hlt : (o.getD i 0).toNat < r.length := by omega
          refine ⟨a, b, ?_, d⟩
          rw [getD_map1 hlt, c]; rfl
        · rintro ⟨a, b, c, d⟩
          have hlt : (o.getD i 0).toNat < r.length := by omega
          refine ⟨a, b, ?_, d⟩
          rw [getD_map1 hlt] at c; omega
      by_cases hok : okAt l o r i
      · refine .inr ⟨_, rankTo_ok h1 hok, ?_, ?_⟩
        · rw [refTo_ok h2 (hiff.1 hok), List.map_set]
        · intro x hx
          rcases List.mem_or_eq_of_mem_set hx with hx | rfl
          · exact h3 x hx
          · omega
      · exact .inl ⟨rankTo_bad h1 hok, refTo_bad h2 fun h => hok (hiff.2 h)⟩
theorem undone_ref {l : List Ev} {r : List Int} (n : Nat) (hn : n ≤ r.length) : undone l r n = undone0 l (r.map (· + 1)) n := by
  unfold undone undone0
  apply Bool.eq_iff_iff.2
  simp only [List.any_eq_true, List.mem_range, Bool.and_eq_true, beq_iff_eq]
  constructor
  · rintro ⟨p, hp, h1, h2⟩
    exact ⟨p, hp, h1, by rw [getD_map1 (by omega), h2]; rfl⟩
  · rintro ⟨p, hp, h1, h2⟩
    rw [getD_map1 (by omega)] at h2
    exact ⟨p, hp, h1, by omega⟩
theorem rank_at {l : List Ev} {o : List Int} : ∀ {i : Nat} {r : List Int}, rankTo l o i = some r →
    (∀ j < i, r.getD (o.getD j 0).toNat 0 = (j : Int)) ∧ (∀ p < l.length, r.getD p 0 = -1 ∨ ∃ j < i, r.getD p 0 = (j : Int) ∧ o.getD j 0 = (p : Int))
  | 0, r, h => by
    simp only [rankTo, Option.some.injEq] at h
    subst h
    refine ⟨fun j hj => by omega, fun p hp => .inl ?_⟩
    rw [getD_lt (by simpa using hp)]; simp
  | i + 1, r, h => by
    obtain ⟨r', e, hok, rfl⟩ := rankTo_inv h
    obtain ⟨a, b⟩ := rank_at e
    have hl := rankTo_len e
    have hlt : (o.getD i 0).toNat < r'.length := by have := hok.2.1; have := hok.1; omega
    have hset : ∀ k, (r'.set (o.getD i 0).toNat (i : Int)).getD k 0 = if (o.getD i 0).toNat = k then (i : Int) else r'.getD k 0 := by
      intro k
      by_cases hk : (o.getD i 0).toNat = k
      · rw [if_pos hk]
        subst hk
        generalize (o.getD i 0).toNat = q at *
        simp [List.getD, List.getElem?_set, hlt]
      · rw [if_neg hk]
        generalize (o.getD i 0).toNat = q at *
        simp [List.getD, List.getElem?_set, hk]
    refine ⟨fun j hj => ?_, fun p hp => ?_⟩
    · rw [hset]
      by_cases hji : j = i
      · subst hji; simp
      · have hj' : j < i := by omega
        have hne : (o.getD i 0).toNat ≠ (o.getD j 0).toNat := by
          intro he
          have h1 := a j hj'
          rw [← he, hok.2.2.1] at h1
          omega
        rw [if_neg hne]
        exact a j hj'
    · rw [hset]
      by_cases hk : (o.getD i 0).toNat = p
      · rw [if_pos hk]
        have := hok.1
        exact .inr ⟨i, by omega, rfl, by omega⟩
      · rw [if_neg hk]
        rcases b p hp with h1 | ⟨j, h1, h2, h3⟩
        · exact .inl h1
        · exact .inr ⟨j, by omega, h2, h3⟩
theorem bad_ref {l : List Ev} {o r : List Int} (h : rankTo l o o.length = some r) : badTo l o r o.length = rbadTo l (r.map (· + 1)) l.length := by
  obtain ⟨ha, hb⟩ := rank_at h
  have hl := rankTo_len h
  have hent := rankTo_ent h
  apply Bool.eq_iff_iff.2
  simp only [badTo, rbadTo, rbadRow, List.any_eq_true, List.mem_range]
  constructor
  · rintro ⟨i, hi, j, hj, hbad⟩
    have e1 := hent i hi
    have e2 := hent j (by omega)
    refine ⟨(o.getD i 0).toNat, by omega, (o.getD j 0).toNat, by omega, ?_⟩
    unfold badAt at hbad
    unfold rbadAt
    rw [getD_map1 (by omega), getD_map1 (by omega), ha i hi, ha j (by omega)]
    rw [ha i hi, ha j (by omega)] at hbad
    simp only [Bool.and_eq_true, decide_eq_true_eq, bne_iff_ne, ne_eq] at *
    exact ⟨by omega, by omega, hbad.1, by omega⟩
  · rintro ⟨p, hp, q, hq, hbad⟩
    unfold rbadAt at hbad
    rw [getD_map1 (by omega), getD_map1 (by omega)] at hbad
    simp only [Bool.and_eq_true, decide_eq_true_eq, bne_iff_ne, ne_eq] at hbad
    obtain ⟨h1, h2, h3, h4⟩ := hbad
    rcases hb p hp with h | ⟨i, hi, hip, hio⟩
    · omega
    rcases hb q hq with h | ⟨j, hj, hjq, hjo⟩
    · omega
    refine ⟨i, hi, j, by omega, ?_⟩
    unfold badAt
    rw [hio, hjo, Int.toNat_natCast, Int.toNat_natCast, hip, hjq]
    simp only [Bool.and_eq_true, decide_eq_true_eq]
    exact ⟨h3, by omega⟩
theorem check_same (l : List Ev) (o : List Int) : checkM l o = refCheckM l o := by
  unfold checkM refCheckM rankM
  rcases rank_ref (l := l) (o := o) o.length with ⟨h1, h2⟩ | ⟨r, h1, h2, _⟩
  · rw [h1, h2]
  · rw [h1, h2]
    have hl := rankTo_len h1
    simp only
    rw [undone_ref l.length (by omega)]
    cases hu : undone0 l (r.map (· + 1)) l.length with
    | true => rfl
    | false =>
      simp only
      rw [bad_ref h1]
end E26
end Go.Rx
end

noncomputable section
namespace Go.Rx
open Go.Proofs
set_option maxRecDepth 100000
set_option maxHeartbeats 4000000
abbrev Y1 := yh → yh → Option Bool
def y62 (m_ : Y1) (args : List V) (H : Heap) (K : V → Heap → Prop) : Prop :=
  aC args fun a0 r => aC r fun a1 r => aN r <| aAgg a0 fun c0 => y3h c0 fun a => aAgg a1 fun c1 => y3h c1 fun b => aN H <| So (m_ a b) fun x => K (vb x) []
def ybw (m_ : Y1) : Spec := ⟨y62 m_, (true : Bool)⟩
def yb9  : Cfg := { cfgB with
  sigs := sigN }
theorem yh7 (a b : yh) (K : V → Heap → Prop) : (exF yb9 Try.f88 [.agg (y2c a), .agg (y2c b)] [] K) = (
    br a.Done (K (vb (decide (a.End < b.Begin))) []) (K (vb false) [])) := by kernel_rfl
def y0b (a b : yh) : Option Bool :=
  (bif a.Done then some (decide (a.End < b.Begin)) else some false)
attribute [local irreducible] Loop ex exF contK roundK retK at_ bodyOf mkEnv
theorem ygu : SpecOK Try.prog elTT 88 (ybw y0b) := by
  refine spec_of_exF (cfg := yb9) (yn rfl rfl rfl) yp (fn := Try.f88) (by kernel_rfl) (by kernel_rfl) (by kernel_rfl) ?_
  intro args H K h
  change y62 y0b args H K at h
  unfold y62 at h
  repeat first | (obtain ⟨_, h⟩ := h) | replace h := Des.el h
  subst_vars
  refine Eq.mpr (yh7 _ _ K) ?_
  unfold y0b at h
  revert h
  exact br_So (fun h => h) (fun h => h)
end Go.Rx
end

noncomputable section
namespace Go.Rx
open Go.Proofs
set_option maxRecDepth 100000
set_option maxHeartbeats 4000000
def y8u (m_ : Y1) (args : List V) (H : Heap) (K : V → Heap → Prop) : Prop :=
  aC args fun a0 r => aC r fun a1 r => aN r <| aAgg a0 fun c0 => y3h c0 fun a => aAgg a1 fun c1 => y3h c1 fun b => aN H <| So (m_ a b) fun x => K (vb x) []
def ydt (m_ : Y1) : Spec := ⟨y8u m_, (true : Bool)⟩
abbrev Y17 := (List Ev) → Option (List Int)
def y7u (m_ : Y17) (args : List V) (H : Heap) (K : V → Heap → Prop) : Prop :=
  aC args fun a0 r => aN r <| aRow 0 a0 <| aC H fun b0 r => aN r <| bRow 3 true b0 fun (l2 : List Ev) => So (m_ l2) fun x => K (.row 1) [.row 3 l2 true, .row 0 x false]
def y9x (m_ : Y17) : Spec := ⟨y7u m_, (true : Bool)⟩
abbrev Y13 := (List Ev) → (List Int) → Option ((List Int) × Bool)
def y8v (m_ : Y13) (args : List V) (H : Heap) (K : V → Heap → Prop) : Prop :=
  aC args fun a0 r => aC r fun a1 r => aN r <| aRow 0 a0 <| aRow 1 a1 <| aC H fun b0 r => aC r fun b1 r => aN r <| bRow 3 true b0 fun (l2 : List Ev) => bRow 0 true b1 fun (order : List Int) => So (m_ l2 order) fun x => K (.tup [.row 2, vb x.2]) [.row 3 l2 true, .row 0 order true, .row 0 x.1 false]
def ye4 (m_ : Y13) : Spec := ⟨y8v m_, (true : Bool)⟩
abbrev Y15 := (List Ev) → (List Int) → Option Int
def y6n (m_ : Y15) (args : List V) (H : Heap) (K : V → Heap → Prop) : Prop :=
  aC args fun a0 r => aC r fun a1 r => aN r <| aRow 0 a0 <| aRow 1 a1 <| aC H fun b0 r => aC r fun b1 r => aN r <| bRow 3 true b0 fun (l2 : List Ev) => bRow 0 true b1 fun (order : List Int) => So (m_ l2 order) fun x => K (vi x) [.row 3 l2 true, .row 0 order true]
def ye1 (m_ : Y15) : Spec := ⟨y6n m_, (true : Bool)⟩
def ycc  : Cfg := { cfgB with
  sigs := sigN }
def y1f (y0a : Y1) : Cfg := { cfgB with
  sigs := (sigC 89 (ydt y0a) sigN),
  keep := fun r => match r with | 2 => some [(0, some 3), (3, some 0)] | 3 => some [(0, some 3), (3, some 0), (7, some 3), (8, none), (9, none)] | 8 => some [(0, some 3), (3, some 0), (5, none), (6, none), (7, some 3), (8, none), (9, none)] | _ => none,
  plan := fun r => match r with | 10 => some (List.range 11, 17) | 11 => some (List.range 18, 17) | _ => none,
  nilrow := true }
def y0w  : Cfg := { cfgB with
  sigs := sigN,
  keep := fun r => match r with | 3 => some [(0, some 3), (1, some 0), (6, some 0), (16, none), (17, none)] | 8 => some [(0, some 3), (6, some 0), (24, some 0), (25, none), (26, none)] | 15 => some [(6, some 0), (59, some 3), (60, none), (61, none)] | _ => none }
def y1e (y08 : Y13) (y0b : Y1) : Cfg := { cfgB with
  sigs := (sigC 90 (ye4 y08) (sigC 88 (ybw y0b) sigN)),
  keep := fun r => match r with | 5 => some [(0, some 3), (1, some 0), (5, some 0), (19, some 0), (20, none), (21, none)] | 8 => some [(0, some 3), (1, some 0), (5, some 0), (8, none), (19, some 0), (20, none), (21, none), (28, some 0), (29, none), (30, none)] | _ => none,
  plan := fun r => match r with | 10 => some (List.range 20, 0) | _ => none }
theorem yfd (a b : yh) (K : V → Heap → Prop) : (exF ycc Try.f89 [.agg (y2c a), .agg (y2c b)] [] K) = (
    br (a.Stamp != b.Stamp) (K (vb (decide (a.Stamp < b.Stamp))) []) (br (!a.Wrote == b.Wrote) (K (vb a.Wrote) []) (br a.Done (br b.Done (K (vb (decide (a.End < b.End))) []) (br a.Done (K (vb (!b.Done)) []) (K (vb false) []))) (br a.Done (K (vb (!b.Done)) []) (K (vb false) []))))) := by kernel_rfl
theorem yg3 (y0a : Y1) (l2 : List Ev) (t8 t9 : Int) (w : List Int) (k : Int) (w2 : List Int) (c : yh) (K : V → Heap → Prop) (J1 : Env → Heap → Prop) (J2 : Env → Heap → Prop) : (ex (y1f y0a) (⟨57, 1⟩ : Cx) (at_ (bodyOf Try.f61) [1, 0, 1, 1, 0, 1, 0, 0, 1, 1, 0, 0, 1, 1, 1, 1, 0, 0]) (mkEnv [(0, .row 0), (3, .row 1), (5, .ptr 2 0), (6, vi k), (7, .row 0), (8, vi t8), (9, vi t9)]) [.row 3 (l2 : List Go.Rx.Ev) true, .row 0 w2 false, .cells 105 (y2c c)] (roundK (y1f y0a) (⟨57, 1⟩ : Cx) (at_ (bodyOf Try.f61) [1, 0, 1, 1, 0, 1, 0, 0, 1, 1, 0, 0, 1, 1, 1, 1, 0, 0]) (contK (y1f y0a) (⟨57, 1⟩ : Cx) (at_ (bodyOf Try.f61) [1, 0, 1, 1, 0, 1, 0, 0]) [1, 1, 0, 0, 1, 1, 1, 1, 0] (roundK (y1f y0a) (⟨57, 1⟩ : Cx) (at_ (bodyOf Try.f61) [1, 0, 1, 1, 0, 1, 0, 0]) (contK (y1f y0a) (⟨57, 1⟩ : Cx) (bodyOf Try.f61) [1, 0, 1, 1, 0, 1, 0] (retK (y1f y0a) Try.f61 1 K)) J1)) J2)) = (
    br (decide (k > 0)) (Req (inR (IntKind.i64.wrap (k - 1)) w2.length) (Req (inR (offs (IntKind.i64.wrap (k - 1)) 0) w2.length) (Req (inR (w2.getD (Int.toNat (offs (IntKind.i64.wrap (k - 1)) 0)) 0) l2.length) (Req (inR (offs (w2.getD (Int.toNat (offs (IntKind.i64.wrap (k - 1)) 0)) 0) 0) l2.length) (So (y0a c (yh.mk (Ev.Worker (l2.getD (Int.toNat (offs (w2.getD (Int.toNat (offs (IntKind.i64.wrap (k - 1)) 0)) 0) 0)) dEv)) (yc.mk (Ev.CKind (l2.getD (Int.toNat (offs (w2.getD (Int.toNat (offs (IntKind.i64.wrap (k - 1)) 0)) 0) 0)) dEv)) (Ev.CAddr (l2.getD (Int.toNat (offs (w2.getD (Int.toNat (offs (IntKind.i64.wrap (k - 1)) 0)) 0) 0)) dEv)) (Ev.CSize (l2.getD (Int.toNat (offs (w2.getD (Int.toNat (offs (IntKind.i64.wrap (k - 1)) 0)) 0) 0)) dEv)) (Ev.CAlign (l2.getD (Int.toNat (offs (w2.getD (Int.toNat (offs (IntKind.i64.wrap (k - 1)) 0)) 0) 0)) dEv)) (Ev.CValue (l2.getD (Int.toNat (offs (w2.getD (Int.toNat (offs (IntKind.i64.wrap (k - 1)) 0)) 0) 0)) dEv))) (T_api_Reply.mk (Ev.RErr (l2.getD (Int.toNat (offs (w2.getD (Int.toNat (offs (IntKind.i64.wrap (k - 1)) 0)) 0) 0)) dEv)) (Ev.RAddr (l2.getD (Int.toNat (offs (w2.getD (Int.toNat (offs (IntKind.i64.wrap (k - 1)) 0)) 0) 0)) dEv)) (Ev.RSize (l2.getD (Int.toNat (offs (w2.getD (Int.toNat (offs (IntKind.i64.wrap (k - 1)) 0)) 0) 0)) dEv)) (Ev.RValue (l2.getD (Int.toNat (offs (w2.getD (Int.toNat (offs (IntKind.i64.wrap (k - 1)) 0)) 0) 0)) dEv)) (ya.mk (Ev.SBlocks (l2.getD (Int.toNat (offs (w2.getD (Int.toNat (offs (IntKind.i64.wrap (k - 1)) 0)) 0) 0)) dEv)) (Ev.SAsked (l2.getD (Int.toNat (offs (w2.getD (Int.toNat (offs (IntKind.i64.wrap (k - 1)) 0)) 0) 0)) dEv)) (Ev.SWords (l2.getD (Int.toNat (offs (w2.getD (Int.toNat (offs (IntKind.i64.wrap (k - 1)) 0)) 0) 0)) dEv)) (Ev.SKept (l2.getD (Int.toNat (offs (w2.getD (Int.toNat (offs (IntKind.i64.wrap (k - 1)) 0)) 0) 0)) dEv)) (Ev.SOpen (l2.getD (Int.toNat (offs (w2.getD (Int.toNat (offs (IntKind.i64.wrap (k - 1)) 0)) 0) 0)) dEv)) (Ev.SMapped (l2.getD (Int.toNat (offs (w2.getD (Int.toNat (offs (IntKind.i64.wrap (k - 1)) 0)) 0) 0)) dEv)) (Ev.SUsed (l2.getD (Int.toNat (offs (w2.getD (Int.toNat (offs (IntKind.i64.wrap (k - 1)) 0)) 0) 0)) dEv)))) (Ev.Begin (l2.getD (Int.toNat (offs (w2.getD (Int.toNat (offs (IntKind.i64.wrap (k - 1)) 0)) 0) 0)) dEv)) (Ev.End (l2.getD (Int.toNat (offs (w2.getD (Int.toNat (offs (IntKind.i64.wrap (k - 1)) 0)) 0) 0)) dEv)) (Ev.Stamp (l2.getD (Int.toNat (offs (w2.getD (Int.toNat (offs (IntKind.i64.wrap (k - 1)) 0)) 0) 0)) dEv)) (Ev.Wrote (l2.getD (Int.toNat (offs (w2.getD (Int.toNat (offs (IntKind.i64.wrap (k - 1)) 0)) 0) 0)) dEv)) (Ev.Sure (l2.getD (Int.toNat (offs (w2.getD (Int.toNat (offs (IntKind.i64.wrap (k - 1)) 0)) 0) 0)) dEv)) (Ev.Done (l2.getD (Int.toNat (offs (w2.getD (Int.toNat (offs (IntKind.i64.wrap (k - 1)) 0)) 0) 0)) dEv)))) (fun (y0 : Bool) => (br (!y0) (J1 (mkEnv [(0, .row 0), (3, .row 1), (7, .row 0), (8, vi t8), (9, vi (IntKind.i64.wrap (t9 + 1)))]) [.row 3 l2 true, .row 0 w2 false]) (Req (inR (IntKind.i64.wrap (k - 1)) w2.length) (Req (inR (offs (IntKind.i64.wrap (k - 1)) 0) w2.length) (Req (inR k w2.length) (Req (inR (offs k 0) w2.length) (Req (inR k w2.length) (Req (inR (offs k 0) w2.length) (Req (inR (IntKind.i64.wrap (k - 1)) w2.length) (Req (inR (offs (IntKind.i64.wrap (k - 1)) 0) (List.length (List.set w2 (offs k 0).toNat (w2.getD (Int.toNat (offs (IntKind.i64.wrap (k - 1)) 0)) 0)))) (J2 (mkEnv [(0, .row 0), (3, .row 1), (5, .ptr 2 0), (6, vi (IntKind.i64.wrap (k - 1))), (7, .row 0), (8, vi t8), (9, vi t9)]) [.row 3 l2 true, .row 0 (List.set (List.set w2 (offs k 0).toNat (w2.getD (Int.toNat (offs (IntKind.i64.wrap (k - 1)) 0)) 0)) (Int.toNat (offs (IntKind.i64.wrap (k - 1)) 0)) (w2.getD (offs k 0).toNat 0) : List Int) false, .cells 105 (y2c c)])))))))))))))))) (J1 (mkEnv [(0, .row 0), (3, .row 1), (7, .row 0), (8, vi t8), (9, vi (IntKind.i64.wrap (t9 + 1)))]) [.row 3 l2 true, .row 0 w2 false])) := by kernel_rfl
theorem ygo (y0a : Y1) (l2 : List Ev) (t8 t9 : Int) (w : List Int) (K : V → Heap → Prop) (J1 : Env → Heap → Prop) : (ex (y1f y0a) (⟨57, 1⟩ : Cx) (at_ (bodyOf Try.f61) [1, 0, 1, 1, 0, 1, 0, 0]) (mkEnv [(0, .row 0), (3, .row 1), (7, .row 0), (8, vi t8), (9, vi t9)]) [.row 3 (l2 : List Go.Rx.Ev) true, .row 0 w false] (roundK (y1f y0a) (⟨57, 1⟩ : Cx) (at_ (bodyOf Try.f61) [1, 0, 1, 1, 0, 1, 0, 0]) (contK (y1f y0a) (⟨57, 1⟩ : Cx) (bodyOf Try.f61) [1, 0, 1, 1, 0, 1, 0] (retK (y1f y0a) Try.f61 1 K)) J1)) = (
    br (decide (t9 < t8)) (Req (inR t9 l2.length) (Req (inR (offs t9 0) l2.length) (br (!Ev.Sure (l2.getD (offs t9 0).toNat dEv)) (J1 (mkEnv [(0, .row 0), (3, .row 1), (7, .row 0), (8, vi t8), (9, vi (IntKind.i64.wrap (t9 + 1)))]) [.row 3 l2 true, .row 0 w false]) (Req (decide (w.length + 1 ≤ 1048576)) (Loop (y1f y0a) (⟨57, 1⟩ : Cx) (at_ (bodyOf Try.f61) [1, 0, 1, 1, 0, 1, 0, 0, 1, 1, 0, 0, 1, 1, 1, 1, 0, 0]) (mkEnv [(0, .row 0), (3, .row 1), (5, .ptr 2 0), (6, vi (IntKind.i64.wrap ((↑(List.length (w ++ [t9])) : Int) - 1))), (7, .row 0), (8, vi t8), (9, vi t9)]) [.row 3 l2 true, .row 0 (w ++ [t9] : List Int) false, .cells 105 [vi (Ev.Worker (l2.getD (offs t9 0).toNat dEv)), vi (Ev.CKind (l2.getD (offs t9 0).toNat dEv)), vi (Ev.CAddr (l2.getD (offs t9 0).toNat dEv)), vi (Ev.CSize (l2.getD (offs t9 0).toNat dEv)), vi (Ev.CAlign (l2.getD (offs t9 0).toNat dEv)), vi (Ev.CValue (l2.getD (offs t9 0).toNat dEv)), vi (Ev.RErr (l2.getD (offs t9 0).toNat dEv)), vi (Ev.RAddr (l2.getD (offs t9 0).toNat dEv)), vi (Ev.RSize (l2.getD (offs t9 0).toNat dEv)), vi (Ev.RValue (l2.getD (offs t9 0).toNat dEv)), vi (Ev.SBlocks (l2.getD (offs t9 0).toNat dEv)), vi (Ev.SAsked (l2.getD (offs t9 0).toNat dEv)), vi (Ev.SWords (l2.getD (offs t9 0).toNat dEv)), vi (Ev.SKept (l2.getD (offs t9 0).toNat dEv)), vi (Ev.SOpen (l2.getD (offs t9 0).toNat dEv)), vi (Ev.SMapped (l2.getD (offs t9 0).toNat dEv)), vi (Ev.SUsed (l2.getD (offs t9 0).toNat dEv)), vi (Ev.Begin (l2.getD (offs t9 0).toNat dEv)), vi (Ev.End (l2.getD (offs t9 0).toNat dEv)), vi (Ev.Stamp (l2.getD (offs t9 0).toNat dEv)), vb (Ev.Wrote (l2.getD (offs t9 0).toNat dEv)), vb (Ev.Sure (l2.getD (offs t9 0).toNat dEv)), vb (Ev.Done (l2.getD (offs t9 0).toNat dEv))]] (contK (y1f y0a) (⟨57, 1⟩ : Cx) (at_ (bodyOf Try.f61) [1, 0, 1, 1, 0, 1, 0, 0]) [1, 1, 0, 0, 1, 1, 1, 1, 0] (roundK (y1f y0a) (⟨57, 1⟩ : Cx) (at_ (bodyOf Try.f61) [1, 0, 1, 1, 0, 1, 0, 0]) (contK (y1f y0a) (⟨57, 1⟩ : Cx) (bodyOf Try.f61) [1, 0, 1, 1, 0, 1, 0] (retK (y1f y0a) Try.f61 1 K)) J1))))))) (K (.row 1) [.row 3 l2 true, .row 0 w false])) := by kernel_rfl
theorem yfa (y0a : Y1) (l2 : List Ev) (K : V → Heap → Prop) : (exF (y1f y0a) Try.f61 [.row 0] [.row 3 l2 true] K) = (
    Loop (y1f y0a) (⟨57, 1⟩ : Cx) (at_ (bodyOf Try.f61) [1, 0, 1, 1, 0, 1, 0, 0]) (mkEnv [(0, .row 0), (3, .row 1), (7, .row 0), (8, vi (↑l2.length : Int)), (9, vi 0)]) [.row 3 l2 true, .row 0 ([] : List Int) false] (contK (y1f y0a) (⟨57, 1⟩ : Cx) (bodyOf Try.f61) [1, 0, 1, 1, 0, 1, 0] (retK (y1f y0a) Try.f61 1 K))) := by kernel_rfl
theorem yiv (l2 : List Ev) (order : List Int) (t60 t61 : Int) (w : List Int) (K : V → Heap → Prop) (J1 : Env → Heap → Prop) : (ex y0w (⟨77, 2⟩ : Cx) (at_ (bodyOf Try.f90) [1, 1, 1, 1, 0, 1, 0, 0]) (mkEnv [(6, .row 2), (59, .row 0), (60, vi t60), (61, vi t61)]) [.row 3 (l2 : List Go.Rx.Ev) true, .row 0 order true, .row 0 w false] (roundK y0w (⟨77, 2⟩ : Cx) (at_ (bodyOf Try.f90) [1, 1, 1, 1, 0, 1, 0, 0]) (contK y0w (⟨77, 2⟩ : Cx) (bodyOf Try.f90) [1, 1, 1, 1, 0, 1, 0] (retK y0w Try.f90 2 K)) J1)) = (
    br (decide (t61 < t60)) (Req (inR t61 l2.length) (Req (inR (offs t61 0) l2.length) (br (Ev.Done (l2.getD (offs t61 0).toNat dEv)) (Req (inR t61 w.length) (Req (inR (offs t61 0) w.length) (br (w.getD (offs t61 0).toNat 0 == -1) (K (.tup [.row 2, vb false]) [.row 3 l2 true, .row 0 order true, .row 0 ([] : List Int) false]) (J1 (mkEnv [(6, .row 2), (59, .row 0), (60, vi t60), (61, vi (IntKind.i64.wrap (t61 + 1)))]) [.row 3 l2 true, .row 0 order true, .row 0 w false])))) (J1 (mkEnv [(6, .row 2), (59, .row 0), (60, vi t60), (61, vi (IntKind.i64.wrap (t61 + 1)))]) [.row 3 l2 true, .row 0 order true, .row 0 w false])))) (K (.tup [.row 2, vb true]) [.row 3 l2 true, .row 0 order true, .row 0 w false])) := by kernel_rfl
theorem yit (l2 : List Ev) (order : List Int) (t25 t26 : Int) (w : List Int) (K : V → Heap → Prop) (J1 : Env → Heap → Prop) : (ex y0w (⟨77, 2⟩ : Cx) (at_ (bodyOf Try.f90) [1, 1, 1, 0, 1, 0, 0]) (mkEnv [(0, .row 0), (6, .row 2), (24, .row 1), (25, vi t25), (26, vi t26)]) [.row 3 (l2 : List Go.Rx.Ev) true, .row 0 order true, .row 0 w false] (roundK y0w (⟨77, 2⟩ : Cx) (at_ (bodyOf Try.f90) [1, 1, 1, 0, 1, 0, 0]) (contK y0w (⟨77, 2⟩ : Cx) (bodyOf Try.f90) [1, 1, 1, 0, 1, 0] (retK y0w Try.f90 2 K)) J1)) = (
    br (decide (t26 < t25)) (Req (inR t26 order.length) (Req (inR (offs t26 0) order.length) (br (decide (order.getD (offs t26 0).toNat 0 < 0)) (K (.tup [.row 2, vb false]) [.row 3 l2 true, .row 0 order true, .row 0 ([] : List Int) false]) (br (decide (order.getD (offs t26 0).toNat 0 ≥ (↑l2.length : Int))) (K (.tup [.row 2, vb false]) [.row 3 l2 true, .row 0 order true, .row 0 ([] : List Int) false]) (Req (inR (order.getD (offs t26 0).toNat 0) w.length) (Req (inR (offs (order.getD (offs t26 0).toNat 0) 0) w.length) (br (w.getD (Int.toNat (offs (order.getD (offs t26 0).toNat 0) 0)) 0 != -1) (K (.tup [.row 2, vb false]) [.row 3 l2 true, .row 0 order true, .row 0 ([] : List Int) false]) (Req (inR (order.getD (offs t26 0).toNat 0) l2.length) (Req (inR (offs (order.getD (offs t26 0).toNat 0) 0) l2.length) (br (!Ev.Sure (l2.getD (Int.toNat (offs (order.getD (offs t26 0).toNat 0) 0)) dEv)) (K (.tup [.row 2, vb false]) [.row 3 l2 true, .row 0 order true, .row 0 ([] : List Int) false]) (Req (inR (order.getD (offs t26 0).toNat 0) w.length) (Req (inR (offs (order.getD (offs t26 0).toNat 0) 0) w.length) (J1 (mkEnv [(0, .row 0), (6, .row 2), (24, .row 1), (25, vi t25), (26, vi (IntKind.i64.wrap (t26 + 1)))]) [.row 3 l2 true, .row 0 order true, .row 0 (List.set w (Int.toNat (offs (order.getD (offs t26 0).toNat 0) 0)) t26 : List Int) false]))))))))))))) (Loop y0w (⟨77, 2⟩ : Cx) (at_ (bodyOf Try.f90) [1, 1, 1, 1, 0, 1, 0, 0]) (mkEnv [(6, .row 2), (59, .row 0), (60, vi (↑l2.length : Int)), (61, vi 0)]) [.row 3 l2 true, .row 0 order true, .row 0 w false] (contK y0w (⟨77, 2⟩ : Cx) (bodyOf Try.f90) [1, 1, 1, 1, 0, 1, 0] (retK y0w Try.f90 2 K)))) := by kernel_rfl
theorem yep (l2 : List Ev) (order : List Int) (t16 t17 : Int) (w : List Int) (K : V → Heap → Prop) (J1 : Env → Heap → Prop) : (ex y0w (⟨77, 2⟩ : Cx) (at_ (bodyOf Try.f90) [1, 1, 0, 1, 0, 0]) (mkEnv [(0, .row 0), (1, .row 1), (6, .row 2), (16, vi t16), (17, vi t17)]) [.row 3 (l2 : List Go.Rx.Ev) true, .row 0 order true, .row 0 w false] (roundK y0w (⟨77, 2⟩ : Cx) (at_ (bodyOf Try.f90) [1, 1, 0, 1, 0, 0]) (contK y0w (⟨77, 2⟩ : Cx) (bodyOf Try.f90) [1, 1, 0, 1, 0] (retK y0w Try.f90 2 K)) J1)) = (
    br (decide (t17 < t16)) (Req (inR t17 w.length) (Req (inR (offs t17 0) w.length) (J1 (mkEnv [(0, .row 0), (1, .row 1), (6, .row 2), (16, vi t16), (17, vi (IntKind.i64.wrap (t17 + 1)))]) [.row 3 l2 true, .row 0 order true, .row 0 (List.set w (offs t17 0).toNat (-1) : List Int) false]))) (Loop y0w (⟨77, 2⟩ : Cx) (at_ (bodyOf Try.f90) [1, 1, 1, 0, 1, 0, 0]) (mkEnv [(0, .row 0), (6, .row 2), (24, .row 1), (25, vi (↑order.length : Int)), (26, vi 0)]) [.row 3 l2 true, .row 0 order true, .row 0 w false] (contK y0w (⟨77, 2⟩ : Cx) (bodyOf Try.f90) [1, 1, 1, 0, 1, 0] (retK y0w Try.f90 2 K)))) := by kernel_rfl
theorem yg5 (l2 : List Ev) (order : List Int) (K : V → Heap → Prop) : (exF y0w Try.f90 [.row 0, .row 1] [.row 3 l2 true, .row 0 order true] K) = (
    Req (decide (0 ≤ (↑l2.length : Int) ∧ (↑l2.length : Int) ≤ (↑l2.length : Int) ∧ (↑l2.length : Int) ≤ 1048576)) (Loop y0w (⟨77, 2⟩ : Cx) (at_ (bodyOf Try.f90) [1, 1, 0, 1, 0, 0]) (mkEnv [(0, .row 0), (1, .row 1), (6, .row 2), (16, vi (↑(List.length (List.replicate (Int.toNat (↑l2.length : Int)) (0 : Int))) : Int)), (17, vi 0)]) [.row 3 l2 true, .row 0 order true, .row 0 (List.replicate (Int.toNat (↑l2.length : Int)) (0 : Int) : List Int) false] (contK y0w (⟨77, 2⟩ : Cx) (bodyOf Try.f90) [1, 1, 0, 1, 0] (retK y0w Try.f90 2 K)))) := by kernel_rfl
theorem yi7 (y08 : Y13) (y0b : Y1) (l2 : List Ev) (order : List Int) (t20 t21 : Int) (w : List Int) (p : Int) (t28 t282 : Nat) (t29 t30 : Int) (K : V → Heap → Prop) (J1 : Env → Heap → Prop) (J2 : Env → Heap → Prop) : (ex (y1e y08 y0b) (⟨56, 2⟩ : Cx) (at_ (bodyOf Try.f62) [1, 1, 1, 0, 1, 0, 0, 1, 1, 0, 0, 1, 1, 0, 0]) (mkEnv [(0, .row 0), (1, .row 1), (5, .row 2), (8, vi p), (19, .row 1), (20, vi t20), (21, vi t21), (28, .sub 1 t28 t282 1), (29, vi t29), (30, vi t30)]) [.row 3 (l2 : List Go.Rx.Ev) true, .row 0 order true, .row 0 w false] (roundK (y1e y08 y0b) (⟨56, 2⟩ : Cx) (at_ (bodyOf Try.f62) [1, 1, 1, 0, 1, 0, 0, 1, 1, 0, 0, 1, 1, 0, 0]) (contK (y1e y08 y0b) (⟨56, 2⟩ : Cx) (at_ (bodyOf Try.f62) [1, 1, 1, 0, 1, 0, 0]) [1, 1, 0, 0, 1, 1, 0] (roundK (y1e y08 y0b) (⟨56, 2⟩ : Cx) (at_ (bodyOf Try.f62) [1, 1, 1, 0, 1, 0, 0]) (contK (y1e y08 y0b) (⟨56, 2⟩ : Cx) (bodyOf Try.f62) [1, 1, 1, 0, 1, 0] (retK (y1e y08 y0b) Try.f62 2 K)) J1)) J2)) = (
    br (decide (t30 < t29)) (Req (decide (t28 + t282 ≤ order.length)) (Req (inR t30 t282) (Req (inR (offs t30 t28) order.length) (Req (inR p l2.length) (Req (inR (offs p 0) l2.length) (Req (inR (order.getD (Int.toNat (offs t30 t28)) 0) l2.length) (Req (inR (offs (order.getD (Int.toNat (offs t30 t28)) 0) 0) l2.length) (So (y0b (yh.mk (Ev.Worker (l2.getD (offs p 0).toNat dEv)) (yc.mk (Ev.CKind (l2.getD (offs p 0).toNat dEv)) (Ev.CAddr (l2.getD (offs p 0).toNat dEv)) (Ev.CSize (l2.getD (offs p 0).toNat dEv)) (Ev.CAlign (l2.getD (offs p 0).toNat dEv)) (Ev.CValue (l2.getD (offs p 0).toNat dEv))) (T_api_Reply.mk (Ev.RErr (l2.getD (offs p 0).toNat dEv)) (Ev.RAddr (l2.getD (offs p 0).toNat dEv)) (Ev.RSize (l2.getD (offs p 0).toNat dEv)) (Ev.RValue (l2.getD (offs p 0).toNat dEv)) (ya.mk (Ev.SBlocks (l2.getD (offs p 0).toNat dEv)) (Ev.SAsked (l2.getD (offs p 0).toNat dEv)) (Ev.SWords (l2.getD (offs p 0).toNat dEv)) (Ev.SKept (l2.getD (offs p 0).toNat dEv)) (Ev.SOpen (l2.getD (offs p 0).toNat dEv)) (Ev.SMapped (l2.getD (offs p 0).toNat dEv)) (Ev.SUsed (l2.getD (offs p 0).toNat dEv)))) (Ev.Begin (l2.getD (offs p 0).toNat dEv)) (Ev.End (l2.getD (offs p 0).toNat dEv)) (Ev.Stamp (l2.getD (offs p 0).toNat dEv)) (Ev.Wrote (l2.getD (offs p 0).toNat dEv)) (Ev.Sure (l2.getD (offs p 0).toNat dEv)) (Ev.Done (l2.getD (offs p 0).toNat dEv))) (yh.mk (Ev.Worker (l2.getD (Int.toNat (offs (order.getD (Int.toNat (offs t30 t28)) 0) 0)) dEv)) (yc.mk (Ev.CKind (l2.getD (Int.toNat (offs (order.getD (Int.toNat (offs t30 t28)) 0) 0)) dEv)) (Ev.CAddr (l2.getD (Int.toNat (offs (order.getD (Int.toNat (offs t30 t28)) 0) 0)) dEv)) (Ev.CSize (l2.getD (Int.toNat (offs (order.getD (Int.toNat (offs t30 t28)) 0) 0)) dEv)) (Ev.CAlign (l2.getD (Int.toNat (offs (order.getD (Int.toNat (offs t30 t28)) 0) 0)) dEv)) (Ev.CValue (l2.getD (Int.toNat (offs (order.getD (Int.toNat (offs t30 t28)) 0) 0)) dEv))) (T_api_Reply.mk (Ev.RErr (l2.getD (Int.toNat (offs (order.getD (Int.toNat (offs t30 t28)) 0) 0)) dEv)) (Ev.RAddr (l2.getD (Int.toNat (offs (order.getD (Int.toNat (offs t30 t28)) 0) 0)) dEv)) (Ev.RSize (l2.getD (Int.toNat (offs (order.getD (Int.toNat (offs t30 t28)) 0) 0)) dEv)) (Ev.RValue (l2.getD (Int.toNat (offs (order.getD (Int.toNat (offs t30 t28)) 0) 0)) dEv)) (ya.mk (Ev.SBlocks (l2.getD (Int.toNat (offs (order.getD (Int.toNat (offs t30 t28)) 0) 0)) dEv)) (Ev.SAsked (l2.getD (Int.toNat (offs (order.getD (Int.toNat (offs t30 t28)) 0) 0)) dEv)) (Ev.SWords (l2.getD (Int.toNat (offs (order.getD (Int.toNat (offs t30 t28)) 0) 0)) dEv)) (Ev.SKept (l2.getD (Int.toNat (offs (order.getD (Int.toNat (offs t30 t28)) 0) 0)) dEv)) (Ev.SOpen (l2.getD (Int.toNat (offs (order.getD (Int.toNat (offs t30 t28)) 0) 0)) dEv)) (Ev.SMapped (l2.getD (Int.toNat (offs (order.getD (Int.toNat (offs t30 t28)) 0) 0)) dEv)) (Ev.SUsed (l2.getD (Int.toNat (offs (order.getD (Int.toNat (offs t30 t28)) 0) 0)) dEv)))) (Ev.Begin (l2.getD (Int.toNat (offs (order.getD (Int.toNat (offs t30 t28)) 0) 0)) dEv)) (Ev.End (l2.getD (Int.toNat (offs (order.getD (Int.toNat (offs t30 t28)) 0) 0)) dEv)) (Ev.Stamp (l2.getD (Int.toNat (offs (order.getD (Int.toNat (offs t30 t28)) 0) 0)) dEv)) (Ev.Wrote (l2.getD (Int.toNat (offs (order.getD (Int.toNat (offs t30 t28)) 0) 0)) dEv)) (Ev.Sure (l2.getD (Int.toNat (offs (order.getD (Int.toNat (offs t30 t28)) 0) 0)) dEv)) (Ev.Done (l2.getD (Int.toNat (offs (order.getD (Int.toNat (offs t30 t28)) 0) 0)) dEv)))) (fun (y0 : Bool) => (br y0 (Req (inR (order.getD (Int.toNat (offs t30 t28)) 0) w.length) (Req (inR (offs (order.getD (Int.toNat (offs t30 t28)) 0) 0) w.length) (Req (inR p w.length) (Req (inR (offs p 0) w.length) (br (decide (w.getD (Int.toNat (offs (order.getD (Int.toNat (offs t30 t28)) 0) 0)) 0 < w.getD (offs p 0).toNat 0)) (K (vi 17) [.row 3 l2 true, .row 0 order true]) (J2 (mkEnv [(0, .row 0), (1, .row 1), (5, .row 2), (8, vi p), (19, .row 1), (20, vi t20), (21, vi t21), (28, .sub 1 t28 t282 1), (29, vi t29), (30, vi (IntKind.i64.wrap (t30 + 1)))]) [.row 3 l2 true, .row 0 order true, .row 0 w false])))))) (J2 (mkEnv [(0, .row 0), (1, .row 1), (5, .row 2), (8, vi p), (19, .row 1), (20, vi t20), (21, vi t21), (28, .sub 1 t28 t282 1), (29, vi t29), (30, vi (IntKind.i64.wrap (t30 + 1)))]) [.row 3 l2 true, .row 0 order true, .row 0 w false]))))))))))) (J1 (mkEnv [(0, .row 0), (1, .row 1), (5, .row 2), (19, .row 1), (20, vi t20), (21, vi (IntKind.i64.wrap (t21 + 1)))]) [.row 3 l2 true, .row 0 order true, .row 0 w false])) := by kernel_rfl
theorem yf3 (y08 : Y13) (y0b : Y1) (l2 : List Ev) (order : List Int) (t20 t21 : Int) (w : List Int) (K : V → Heap → Prop) (J1 : Env → Heap → Prop) : (ex (y1e y08 y0b) (⟨56, 2⟩ : Cx) (at_ (bodyOf Try.f62) [1, 1, 1, 0, 1, 0, 0]) (mkEnv [(0, .row 0), (1, .row 1), (5, .row 2), (19, .row 1), (20, vi t20), (21, vi t21)]) [.row 3 (l2 : List Go.Rx.Ev) true, .row 0 order true, .row 0 w false] (roundK (y1e y08 y0b) (⟨56, 2⟩ : Cx) (at_ (bodyOf Try.f62) [1, 1, 1, 0, 1, 0, 0]) (contK (y1e y08 y0b) (⟨56, 2⟩ : Cx) (bodyOf Try.f62) [1, 1, 1, 0, 1, 0] (retK (y1e y08 y0b) Try.f62 2 K)) J1)) = (
    br (decide (t21 < t20)) (Req (inR t21 order.length) (Req (inR (offs t21 0) order.length) (Req (decide (0 ≤ t21 ∧ t21 ≤ (↑order.length : Int))) (Loop (y1e y08 y0b) (⟨56, 2⟩ : Cx) (at_ (bodyOf Try.f62) [1, 1, 1, 0, 1, 0, 0, 1, 1, 0, 0, 1, 1, 0, 0]) (mkEnv [(0, .row 0), (1, .row 1), (5, .row 2), (8, vi (order.getD (offs t21 0).toNat 0)), (19, .row 1), (20, vi t20), (21, vi t21), (28, .sub 1 0 (Int.toNat t21) 1), (29, vi (↑(Int.toNat t21) : Int)), (30, vi 0)]) [.row 3 l2 true, .row 0 order true, .row 0 w false] (contK (y1e y08 y0b) (⟨56, 2⟩ : Cx) (at_ (bodyOf Try.f62) [1, 1, 1, 0, 1, 0, 0]) [1, 1, 0, 0, 1, 1, 0] (roundK (y1e y08 y0b) (⟨56, 2⟩ : Cx) (at_ (bodyOf Try.f62) [1, 1, 1, 0, 1, 0, 0]) (contK (y1e y08 y0b) (⟨56, 2⟩ : Cx) (bodyOf Try.f62) [1, 1, 1, 0, 1, 0] (retK (y1e y08 y0b) Try.f62 2 K)) J1)))))) (K (vi 0) [.row 3 l2 true, .row 0 order true])) := by kernel_rfl
theorem yi9 (y08 : Y13) (y0b : Y1) (l2 : List Ev) (order : List Int) (K : V → Heap → Prop) : (exF (y1e y08 y0b) Try.f62 [.row 0, .row 1] [.row 3 l2 true, .row 0 order true] K) = (
    So (y08 l2 order) (fun (y0 : List Int × Bool) => (br (!y0.2) (K (vi 2) [.row 3 l2 true, .row 0 order true]) (Loop (y1e y08 y0b) (⟨56, 2⟩ : Cx) (at_ (bodyOf Try.f62) [1, 1, 1, 0, 1, 0, 0]) (mkEnv [(0, .row 0), (1, .row 1), (5, .row 2), (19, .row 1), (20, vi (↑order.length : Int)), (21, vi 0)]) [.row 3 l2 true, .row 0 order true, .row 0 (y0.1 : List Int) false] (contK (y1e y08 y0b) (⟨56, 2⟩ : Cx) (bodyOf Try.f62) [1, 1, 1, 0, 1, 0] (retK (y1e y08 y0b) Try.f62 2 K)))))) := by kernel_rfl
def y0a (a b : yh) : Option Bool :=
  (bif (a.Stamp != b.Stamp) then some (decide (a.Stamp < b.Stamp)) else (bif (!a.Wrote == b.Wrote) then some a.Wrote else (bif a.Done then (bif b.Done then some (decide (a.End < b.End)) else (bif a.Done then some (!b.Done) else some false)) else (bif a.Done then some (!b.Done) else some false))))
def y43 (l2 : List Ev) (t9 : Int) (c : yh) (k : Int) (w2 : List Int) : Option ((Int × (List Int)) ⊕ ((Int × (List Int)) ⊕ (List Int))) :=
  (bif (decide (k > 0)) then (bif (inR (IntKind.i64.wrap (k - 1)) w2.length) then (bif (inR (offs (IntKind.i64.wrap (k - 1)) 0) w2.length) then (bif (inR (w2.getD (Int.toNat (offs (IntKind.i64.wrap (k - 1)) 0)) 0) l2.length) then (bif (inR (offs (w2.getD (Int.toNat (offs (IntKind.i64.wrap (k - 1)) 0)) 0) 0) l2.length) then ((y0a c (yh.mk (Ev.Worker (l2.getD (Int.toNat (offs (w2.getD (Int.toNat (offs (IntKind.i64.wrap (k - 1)) 0)) 0) 0)) dEv)) (yc.mk (Ev.CKind (l2.getD (Int.toNat (offs (w2.getD (Int.toNat (offs (IntKind.i64.wrap (k - 1)) 0)) 0) 0)) dEv)) (Ev.CAddr (l2.getD (Int.toNat (offs (w2.getD (Int.toNat (offs (IntKind.i64.wrap (k - 1)) 0)) 0) 0)) dEv)) (Ev.CSize (l2.getD (Int.toNat (offs (w2.getD (Int.toNat (offs (IntKind.i64.wrap (k - 1)) 0)) 0) 0)) dEv)) (Ev.CAlign (l2.getD (Int.toNat (offs (w2.getD (Int.toNat (offs (IntKind.i64.wrap (k - 1)) 0)) 0) 0)) dEv)) (Ev.CValue (l2.getD (Int.toNat (offs (w2.getD (Int.toNat (offs (IntKind.i64.wrap (k - 1)) 0)) 0) 0)) dEv))) (T_api_Reply.mk (Ev.RErr (l2.getD (Int.toNat (offs (w2.getD (Int.toNat (offs (IntKind.i64.wrap (k - 1)) 0)) 0) 0)) dEv)) (Ev.RAddr (l2.getD (Int.toNat (offs (w2.getD (Int.toNat (offs (IntKind.i64.wrap (k - 1)) 0)) 0) 0)) dEv)) (Ev.RSize (l2.getD (Int.toNat (offs (w2.getD (Int.toNat (offs (IntKind.i64.wrap (k - 1)) 0)) 0) 0)) dEv)) (Ev.RValue (l2.getD (Int.toNat (offs (w2.getD (Int.toNat (offs (IntKind.i64.wrap (k - 1)) 0)) 0) 0)) dEv)) (ya.mk (Ev.SBlocks (l2.getD (Int.toNat (offs (w2.getD (Int.toNat (offs (IntKind.i64.wrap (k - 1)) 0)) 0) 0)) dEv)) (Ev.SAsked (l2.getD (Int.toNat (offs (w2.getD (Int.toNat (offs (IntKind.i64.wrap (k - 1)) 0)) 0) 0)) dEv)) (Ev.SWords (l2.getD (Int.toNat (offs (w2.getD (Int.toNat (offs (IntKind.i64.wrap (k - 1)) 0)) 0) 0)) dEv)) (Ev.SKept (l2.getD (Int.toNat (offs (w2.getD (Int.toNat (offs (IntKind.i64.wrap (k - 1)) 0)) 0) 0)) dEv)) (Ev.SOpen (l2.getD (Int.toNat (offs (w2.getD (Int.toNat (offs (IntKind.i64.wrap (k - 1)) 0)) 0) 0)) dEv)) (Ev.SMapped (l2.getD (Int.toNat (offs (w2.getD (Int.toNat (offs (IntKind.i64.wrap (k - 1)) 0)) 0) 0)) dEv)) (Ev.SUsed (l2.getD (Int.toNat (offs (w2.getD (Int.toNat (offs (IntKind.i64.wrap (k - 1)) 0)) 0) 0)) dEv)))) (Ev.Begin (l2.getD (Int.toNat (offs (w2.getD (Int.toNat (offs (IntKind.i64.wrap (k - 1)) 0)) 0) 0)) dEv)) (Ev.End (l2.getD (Int.toNat (offs (w2.getD (Int.toNat (offs (IntKind.i64.wrap (k - 1)) 0)) 0) 0)) dEv)) (Ev.Stamp (l2.getD (Int.toNat (offs (w2.getD (Int.toNat (offs (IntKind.i64.wrap (k - 1)) 0)) 0) 0)) dEv)) (Ev.Wrote (l2.getD (Int.toNat (offs (w2.getD (Int.toNat (offs (IntKind.i64.wrap (k - 1)) 0)) 0) 0)) dEv)) (Ev.Sure (l2.getD (Int.toNat (offs (w2.getD (Int.toNat (offs (IntKind.i64.wrap (k - 1)) 0)) 0) 0)) dEv)) (Ev.Done (l2.getD (Int.toNat (offs (w2.getD (Int.toNat (offs (IntKind.i64.wrap (k - 1)) 0)) 0) 0)) dEv)))).bind fun y0 => (bif (!y0) then some (.inr (.inl ((IntKind.i64.wrap (t9 + 1)), w2))) else (bif (inR (IntKind.i64.wrap (k - 1)) w2.length) then (bif (inR (offs (IntKind.i64.wrap (k - 1)) 0) w2.length) then (bif (inR k w2.length) then (bif (inR (offs k 0) w2.length) then (bif (inR k w2.length) then (bif (inR (offs k 0) w2.length) then (bif (inR (IntKind.i64.wrap (k - 1)) w2.length) then (bif (inR (offs (IntKind.i64.wrap (k - 1)) 0) (List.length (List.set w2 (offs k 0).toNat (w2.getD (Int.toNat (offs (IntKind.i64.wrap (k - 1)) 0)) 0)))) then some (.inl ((IntKind.i64.wrap (k - 1)), (List.set (List.set w2 (offs k 0).toNat (w2.getD (Int.toNat (offs (IntKind.i64.wrap (k - 1)) 0)) 0)) (Int.toNat (offs (IntKind.i64.wrap (k - 1)) 0)) (w2.getD (offs k 0).toNat 0)))) else none) else none) else none) else none) else none) else none) else none) else none))) else none) else none) else none) else none) else some (.inr (.inl ((IntKind.i64.wrap (t9 + 1)), w2))))
def yco (l2 : List Ev) (t9 : Int) (c : yh) (s : Int × (List Int)) : Option ((Int × (List Int)) ⊕ (List Int)) :=
  loopO (fun s => y43 l2 t9 c s.1 s.2) s
def y4l (l2 : List Ev) (t8 t9 : Int) (w : List Int) : Option ((Int × (List Int)) ⊕ (List Int)) :=
  (bif (decide (t9 < t8)) then (bif (inR t9 l2.length) then (bif (inR (offs t9 0) l2.length) then (bif (!Ev.Sure (l2.getD (offs t9 0).toNat dEv)) then some (.inl ((IntKind.i64.wrap (t9 + 1)), w)) else (bif (decide (w.length + 1 ≤ 1048576)) then (yco l2 t9 (yh.mk (Ev.Worker (l2.getD (offs t9 0).toNat dEv)) (yc.mk (Ev.CKind (l2.getD (offs t9 0).toNat dEv)) (Ev.CAddr (l2.getD (offs t9 0).toNat dEv)) (Ev.CSize (l2.getD (offs t9 0).toNat dEv)) (Ev.CAlign (l2.getD (offs t9 0).toNat dEv)) (Ev.CValue (l2.getD (offs t9 0).toNat dEv))) (T_api_Reply.mk (Ev.RErr (l2.getD (offs t9 0).toNat dEv)) (Ev.RAddr (l2.getD (offs t9 0).toNat dEv)) (Ev.RSize (l2.getD (offs t9 0).toNat dEv)) (Ev.RValue (l2.getD (offs t9 0).toNat dEv)) (ya.mk (Ev.SBlocks (l2.getD (offs t9 0).toNat dEv)) (Ev.SAsked (l2.getD (offs t9 0).toNat dEv)) (Ev.SWords (l2.getD (offs t9 0).toNat dEv)) (Ev.SKept (l2.getD (offs t9 0).toNat dEv)) (Ev.SOpen (l2.getD (offs t9 0).toNat dEv)) (Ev.SMapped (l2.getD (offs t9 0).toNat dEv)) (Ev.SUsed (l2.getD (offs t9 0).toNat dEv)))) (Ev.Begin (l2.getD (offs t9 0).toNat dEv)) (Ev.End (l2.getD (offs t9 0).toNat dEv)) (Ev.Stamp (l2.getD (offs t9 0).toNat dEv)) (Ev.Wrote (l2.getD (offs t9 0).toNat dEv)) (Ev.Sure (l2.getD (offs t9 0).toNat dEv)) (Ev.Done (l2.getD (offs t9 0).toNat dEv))) ((IntKind.i64.wrap ((↑(List.length (w ++ [t9])) : Int) - 1)), (w ++ [t9]))) else none)) else none) else none) else some (.inr w))
def y9c (l2 : List Ev) (t8 : Int) (s : Int × (List Int)) : Option (List Int) :=
  loopO (fun s => y4l l2 t8 s.1 s.2) s
def y2p (l2 : List Ev) : Option (List Int) :=
  (y9c l2 (↑l2.length : Int) (0, ([])))
def y44 (l2 : List Ev) (t60 : Int) (w : List Int) (t61 : Int) : Option (Int ⊕ ((List Int) × Bool)) :=
  (bif (decide (t61 < t60)) then (bif (inR t61 l2.length) then (bif (inR (offs t61 0) l2.length) then (bif (Ev.Done (l2.getD (offs t61 0).toNat dEv)) then (bif (inR t61 w.length) then (bif (inR (offs t61 0) w.length) then (bif (w.getD (offs t61 0).toNat 0 == -1) then some (.inr (([]), false)) else some (.inl (IntKind.i64.wrap (t61 + 1)))) else none) else none) else some (.inl (IntKind.i64.wrap (t61 + 1)))) else none) else none) else some (.inr (w, true)))
def y5e (l2 : List Ev) (t60 : Int) (w : List Int) (s : Int) : Option ((List Int) × Bool) :=
  loopO (fun s => y44 l2 t60 w s) s
def y4g (l2 : List Ev) (order : List Int) (t25 t26 : Int) (w : List Int) : Option ((Int × (List Int)) ⊕ ((List Int) × Bool)) :=
  (bif (decide (t26 < t25)) then (bif (inR t26 order.length) then (bif (inR (offs t26 0) order.length) then (bif (decide (order.getD (offs t26 0).toNat 0 < 0)) then some (.inr (([]), false)) else (bif (decide (order.getD (offs t26 0).toNat 0 ≥ (↑l2.length : Int))) then some (.inr (([]), false)) else (bif (inR (order.getD (offs t26 0).toNat 0) w.length) then (bif (inR (offs (order.getD (offs t26 0).toNat 0) 0) w.length) then (bif (w.getD (Int.toNat (offs (order.getD (offs t26 0).toNat 0) 0)) 0 != -1) then some (.inr (([]), false)) else (bif (inR (order.getD (offs t26 0).toNat 0) l2.length) then (bif (inR (offs (order.getD (offs t26 0).toNat 0) 0) l2.length) then (bif (!Ev.Sure (l2.getD (Int.toNat (offs (order.getD (offs t26 0).toNat 0) 0)) dEv)) then some (.inr (([]), false)) else (bif (inR (order.getD (offs t26 0).toNat 0) w.length) then (bif (inR (offs (order.getD (offs t26 0).toNat 0) 0) w.length) then some (.inl ((IntKind.i64.wrap (t26 + 1)), (List.set w (Int.toNat (offs (order.getD (offs t26 0).toNat 0) 0)) t26))) else none) else none)) else none) else none)) else none) else none))) else none) else none) else ((y5e l2 (↑l2.length : Int) w 0).bind fun z => some (.inr z)))
def y5d (l2 : List Ev) (order : List Int) (t25 : Int) (s : Int × (List Int)) : Option ((List Int) × Bool) :=
  loopO (fun s => y4g l2 order t25 s.1 s.2) s
def y47 (l2 : List Ev) (order : List Int) (t16 t17 : Int) (w : List Int) : Option ((Int × (List Int)) ⊕ ((List Int) × Bool)) :=
  (bif (decide (t17 < t16)) then (bif (inR t17 w.length) then (bif (inR (offs t17 0) w.length) then some (.inl ((IntKind.i64.wrap (t17 + 1)), (List.set w (offs t17 0).toNat (-1)))) else none) else none) else ((y5d l2 order (↑order.length : Int) (0, w)).bind fun z => some (.inr z)))
def y86 (l2 : List Ev) (order : List Int) (t16 : Int) (s : Int × (List Int)) : Option ((List Int) × Bool) :=
  loopO (fun s => y47 l2 order t16 s.1 s.2) s
def y08 (l2 : List Ev) (order : List Int) : Option ((List Int) × Bool) :=
  (bif (decide (0 ≤ (↑l2.length : Int) ∧ (↑l2.length : Int) ≤ (↑l2.length : Int) ∧ (↑l2.length : Int) ≤ 1048576)) then (y86 l2 order (↑(List.length (List.replicate (Int.toNat (↑l2.length : Int)) (0 : Int))) : Int) (0, (List.replicate (Int.toNat (↑l2.length : Int)) (0 : Int)))) else none)
def y4e (l2 : List Ev) (order : List Int) (t21 : Int) (w : List Int) (p : Int) (t28 t282 : Nat) (t29 t30 : Int) : Option (Int ⊕ (Int ⊕ Int)) :=
  (bif (decide (t30 < t29)) then (bif (decide (t28 + t282 ≤ order.length)) then (bif (inR t30 t282) then (bif (inR (offs t30 t28) order.length) then (bif (inR p l2.length) then (bif (inR (offs p 0) l2.length) then (bif (inR (order.getD (Int.toNat (offs t30 t28)) 0) l2.length) then (bif (inR (offs (order.getD (Int.toNat (offs t30 t28)) 0) 0) l2.length) then ((y0b (yh.mk (Ev.Worker (l2.getD (offs p 0).toNat dEv)) (yc.mk (Ev.CKind (l2.getD (offs p 0).toNat dEv)) (Ev.CAddr (l2.getD (offs p 0).toNat dEv)) (Ev.CSize (l2.getD (offs p 0).toNat dEv)) (Ev.CAlign (l2.getD (offs p 0).toNat dEv)) (Ev.CValue (l2.getD (offs p 0).toNat dEv))) (T_api_Reply.mk (Ev.RErr (l2.getD (offs p 0).toNat dEv)) (Ev.RAddr (l2.getD (offs p 0).toNat dEv)) (Ev.RSize (l2.getD (offs p 0).toNat dEv)) (Ev.RValue (l2.getD (offs p 0).toNat dEv)) (ya.mk (Ev.SBlocks (l2.getD (offs p 0).toNat dEv)) (Ev.SAsked (l2.getD (offs p 0).toNat dEv)) (Ev.SWords (l2.getD (offs p 0).toNat dEv)) (Ev.SKept (l2.getD (offs p 0).toNat dEv)) (Ev.SOpen (l2.getD (offs p 0).toNat dEv)) (Ev.SMapped (l2.getD (offs p 0).toNat dEv)) (Ev.SUsed (l2.getD (offs p 0).toNat dEv)))) (Ev.Begin (l2.getD (offs p 0).toNat dEv)) (Ev.End (l2.getD (offs p 0).toNat dEv)) (Ev.Stamp (l2.getD (offs p 0).toNat dEv)) (Ev.Wrote (l2.getD (offs p 0).toNat dEv)) (Ev.Sure (l2.getD (offs p 0).toNat dEv)) (Ev.Done (l2.getD (offs p 0).toNat dEv))) (yh.mk (Ev.Worker (l2.getD (Int.toNat (offs (order.getD (Int.toNat (offs t30 t28)) 0) 0)) dEv)) (yc.mk (Ev.CKind (l2.getD (Int.toNat (offs (order.getD (Int.toNat (offs t30 t28)) 0) 0)) dEv)) (Ev.CAddr (l2.getD (Int.toNat (offs (order.getD (Int.toNat (offs t30 t28)) 0) 0)) dEv)) (Ev.CSize (l2.getD (Int.toNat (offs (order.getD (Int.toNat (offs t30 t28)) 0) 0)) dEv)) (Ev.CAlign (l2.getD (Int.toNat (offs (order.getD (Int.toNat (offs t30 t28)) 0) 0)) dEv)) (Ev.CValue (l2.getD (Int.toNat (offs (order.getD (Int.toNat (offs t30 t28)) 0) 0)) dEv))) (T_api_Reply.mk (Ev.RErr (l2.getD (Int.toNat (offs (order.getD (Int.toNat (offs t30 t28)) 0) 0)) dEv)) (Ev.RAddr (l2.getD (Int.toNat (offs (order.getD (Int.toNat (offs t30 t28)) 0) 0)) dEv)) (Ev.RSize (l2.getD (Int.toNat (offs (order.getD (Int.toNat (offs t30 t28)) 0) 0)) dEv)) (Ev.RValue (l2.getD (Int.toNat (offs (order.getD (Int.toNat (offs t30 t28)) 0) 0)) dEv)) (ya.mk (Ev.SBlocks (l2.getD (Int.toNat (offs (order.getD (Int.toNat (offs t30 t28)) 0) 0)) dEv)) (Ev.SAsked (l2.getD (Int.toNat (offs (order.getD (Int.toNat (offs t30 t28)) 0) 0)) dEv)) (Ev.SWords (l2.getD (Int.toNat (offs (order.getD (Int.toNat (offs t30 t28)) 0) 0)) dEv)) (Ev.SKept (l2.getD (Int.toNat (offs (order.getD (Int.toNat (offs t30 t28)) 0) 0)) dEv)) (Ev.SOpen (l2.getD (Int.toNat (offs (order.getD (Int.toNat (offs t30 t28)) 0) 0)) dEv)) (Ev.SMapped (l2.getD (Int.toNat (offs (order.getD (Int.toNat (offs t30 t28)) 0) 0)) dEv)) (Ev.SUsed (l2.getD (Int.toNat (offs (order.getD (Int.toNat (offs t30 t28)) 0) 0)) dEv)))) (Ev.Begin (l2.getD (Int.toNat (offs (order.getD (Int.toNat (offs t30 t28)) 0) 0)) dEv)) (Ev.End (l2.getD (Int.toNat (offs (order.getD (Int.toNat (offs t30 t28)) 0) 0)) dEv)) (Ev.Stamp (l2.getD (Int.toNat (offs (order.getD (Int.toNat (offs t30 t28)) 0) 0)) dEv)) (Ev.Wrote (l2.getD (Int.toNat (offs (order.getD (Int.toNat (offs t30 t28)) 0) 0)) dEv)) (Ev.Sure (l2.getD (Int.toNat (offs (order.getD (Int.toNat (offs t30 t28)) 0) 0)) dEv)) (Ev.Done (l2.getD (Int.toNat (offs (order.getD (Int.toNat (offs t30 t28)) 0) 0)) dEv)))).bind fun y0 => (bif y0 then (bif (inR (order.getD (Int.toNat (offs t30 t28)) 0) w.length) then (bif (inR (offs (order.getD (Int.toNat (offs t30 t28)) 0) 0) w.length) then (bif (inR p w.length) then (bif (inR (offs p 0) w.length) then (bif (decide (w.getD (Int.toNat (offs (order.getD (Int.toNat (offs t30 t28)) 0) 0)) 0 < w.getD (offs p 0).toNat 0)) then some (.inr (.inr 17)) else some (.inl (IntKind.i64.wrap (t30 + 1)))) else none) else none) else none) else none) else some (.inl (IntKind.i64.wrap (t30 + 1))))) else none) else none) else none) else none) else none) else none) else none) else some (.inr (.inl (IntKind.i64.wrap (t21 + 1)))))
def y5a (l2 : List Ev) (order : List Int) (t21 : Int) (w : List Int) (p : Int) (t28 t282 : Nat) (t29 s : Int) : Option (Int ⊕ Int) :=
  loopO (fun s => y4e l2 order t21 w p t28 t282 t29 s) s
def y4b (l2 : List Ev) (order : List Int) (t20 : Int) (w : List Int) (t21 : Int) : Option (Int ⊕ Int) :=
  (bif (decide (t21 < t20)) then (bif (inR t21 order.length) then (bif (inR (offs t21 0) order.length) then (bif (decide (0 ≤ t21 ∧ t21 ≤ (↑order.length : Int))) then (y5a l2 order t21 w (order.getD (offs t21 0).toNat 0) 0 (Int.toNat t21) (↑(Int.toNat t21) : Int) 0) else none) else none) else none) else some (.inr 0))
def y8n (l2 : List Ev) (order : List Int) (t20 : Int) (w : List Int) (s : Int) : Option Int :=
  loopO (fun s => y4b l2 order t20 w s) s
def y31 (l2 : List Ev) (order : List Int) : Option Int :=
  ((y08 l2 order).bind fun y0 => (bif (!y0.2) then some 2 else (y8n l2 order (↑order.length : Int) y0.1 0)))
attribute [local irreducible] Loop ex exF contK roundK retK at_ bodyOf mkEnv
theorem yj7 : SpecOK Try.prog elTT 89 (ydt y0a) := by
  refine spec_of_exF (cfg := ycc) (yn rfl rfl rfl) yp (fn := Try.f89) (by kernel_rfl) (by kernel_rfl) (by kernel_rfl) ?_
  intro args H K h
  change y8u y0a args H K at h
  unfold y8u at h
  repeat first | (obtain ⟨_, h⟩ := h) | replace h := Des.el h
  subst_vars
  refine Eq.mpr (yfd _ _ K) ?_
  unfold y0a at h
  revert h
  exact br_So (fun h => h) (br_So (fun h => h) (br_So (br_So (fun h => h) (br_So (fun h => h) (fun h => h))) (br_So (fun h => h) (fun h => h))))
theorem lpok_order_Sort_L2 (l2 : List Ev) (t8 t9 : Int) (w : List Int) (k : Int) (w2 : List Int) (c : yh) (K : V → Heap → Prop) (J1 : Env → Heap → Prop) : So (yco l2 t9 c (k, w2)) (sumK (fun (s_ : Int × (List Int)) => J1 (mkEnv [(0, .row 0), (3, .row 1), (7, .row 0), (8, vi t8), (9, vi s_.1)]) [.row 3 l2 true, .row 0 (s_.2 : List Int) false]) (fun (x : (List Int)) => K (.row 1) [.row 3 l2 true, .row 0 x false])) → Loop (y1f y0a) (⟨57, 1⟩ : Cx) (at_ (bodyOf Try.f61) [1, 0, 1, 1, 0, 1, 0, 0, 1, 1, 0, 0, 1, 1, 1, 1, 0, 0]) (mkEnv [(0, .row 0), (3, .row 1), (5, .ptr 2 0), (6, vi k), (7, .row 0), (8, vi t8), (9, vi t9)]) [.row 3 l2 true, .row 0 w2 false, .cells 105 (y2c c)] (contK (y1f y0a) (⟨57, 1⟩ : Cx) (at_ (bodyOf Try.f61) [1, 0, 1, 1, 0, 1, 0, 0]) [1, 1, 0, 0, 1, 1, 1, 1, 0] (roundK (y1f y0a) (⟨57, 1⟩ : Cx) (at_ (bodyOf Try.f61) [1, 0, 1, 1, 0, 1, 0, 0]) (contK (y1f y0a) (⟨57, 1⟩ : Cx) (bodyOf Try.f61) [1, 0, 1, 1, 0, 1, 0] (retK (y1f y0a) Try.f61 1 K)) J1)) := by
  refine loopK_So (fun (s_ : Int × (List Int)) => (mkEnv [(0, .row 0), (3, .row 1), (5, .ptr 2 0), (6, vi s_.1), (7, .row 0), (8, vi t8), (9, vi t9)])) (fun (s_ : Int × (List Int)) => [.row 3 l2 true, .row 0 (s_.2 : List Int) false, .cells 105 (y2c c)]) (sumK (fun (s_ : Int × (List Int)) => J1 (mkEnv [(0, .row 0), (3, .row 1), (7, .row 0), (8, vi t8), (9, vi s_.1)]) [.row 3 l2 true, .row 0 (s_.2 : List Int) false]) (fun (x : (List Int)) => K (.row 1) [.row 3 l2 true, .row 0 x false])) ?_ (k, w2)
  intro s_ J2 h
  clear k
  clear w2
  obtain ⟨k, w2⟩ := s_
  refine Eq.mpr (yg3 y0a l2 t8 t9 w k w2 c K J1 J2) ?_
  have h : So (y43 l2 t9 c k w2) _ := h
  unfold y43 at h
  revert h
  exact br_So (req_So (req_So (req_So (req_So (bind_So fun y0 => br_So (fun h => h) (req_So (req_So (req_So (req_So (req_So (req_So (req_So (req_So (fun h => h)))))))))))))) (fun h => h)
theorem lpok_order_Sort_L1 (l2 : List Ev) (t8 t9 : Int) (w : List Int) (K : V → Heap → Prop) : So (y9c l2 t8 (t9, w)) (fun (x : (List Int)) => K (.row 1) [.row 3 l2 true, .row 0 x false]) → Loop (y1f y0a) (⟨57, 1⟩ : Cx) (at_ (bodyOf Try.f61) [1, 0, 1, 1, 0, 1, 0, 0]) (mkEnv [(0, .row 0), (3, .row 1), (7, .row 0), (8, vi t8), (9, vi t9)]) [.row 3 l2 true, .row 0 w false] (contK (y1f y0a) (⟨57, 1⟩ : Cx) (bodyOf Try.f61) [1, 0, 1, 1, 0, 1, 0] (retK (y1f y0a) Try.f61 1 K)) := by
  refine loopK_So (fun (s_ : Int × (List Int)) => (mkEnv [(0, .row 0), (3, .row 1), (7, .row 0), (8, vi t8), (9, vi s_.1)])) (fun (s_ : Int × (List Int)) => [.row 3 l2 true, .row 0 (s_.2 : List Int) false]) (fun (x : (List Int)) => K (.row 1) [.row 3 l2 true, .row 0 x false]) ?_ (t9, w)
  intro s_ J1 h
  clear t9
  clear w
  obtain ⟨t9, w⟩ := s_
  refine Eq.mpr (ygo y0a l2 t8 t9 w K J1) ?_
  have h : So (y4l l2 t8 t9 w) _ := h
  unfold y4l at h
  revert h
  exact br_So (req_So (req_So (br_So (fun h => h) (req_So (lpok_order_Sort_L2 l2 t8 t9 w (IntKind.i64.wrap ((↑(List.length (w ++ [t9])) : Int) - 1)) (w ++ [t9]) (yh.mk (Ev.Worker (l2.getD (offs t9 0).toNat dEv)) (yc.mk (Ev.CKind (l2.getD (offs t9 0).toNat dEv)) (Ev.CAddr (l2.getD (offs t9 0).toNat dEv)) (Ev.CSize (l2.getD (offs t9 0).toNat dEv)) (Ev.CAlign (l2.getD (offs t9 0).toNat dEv)) (Ev.CValue (l2.getD (offs t9 0).toNat dEv))) (T_api_Reply.mk (Ev.RErr (l2.getD (offs t9 0).toNat dEv)) (Ev.RAddr (l2.getD (offs t9 0).toNat dEv)) (Ev.RSize (l2.getD (offs t9 0).toNat dEv)) (Ev.RValue (l2.getD (offs t9 0).toNat dEv)) (ya.mk (Ev.SBlocks (l2.getD (offs t9 0).toNat dEv)) (Ev.SAsked (l2.getD (offs t9 0).toNat dEv)) (Ev.SWords (l2.getD (offs t9 0).toNat dEv)) (Ev.SKept (l2.getD (offs t9 0).toNat dEv)) (Ev.SOpen (l2.getD (offs t9 0).toNat dEv)) (Ev.SMapped (l2.getD (offs t9 0).toNat dEv)) (Ev.SUsed (l2.getD (offs t9 0).toNat dEv)))) (Ev.Begin (l2.getD (offs t9 0).toNat dEv)) (Ev.End (l2.getD (offs t9 0).toNat dEv)) (Ev.Stamp (l2.getD (offs t9 0).toNat dEv)) (Ev.Wrote (l2.getD (offs t9 0).toNat dEv)) (Ev.Sure (l2.getD (offs t9 0).toNat dEv)) (Ev.Done (l2.getD (offs t9 0).toNat dEv))) K J1))))) (fun h => h)
theorem yib : SpecOK Try.prog elTT 61 (y9x y2p) := by
  refine spec_of_exF (cfg := (y1f y0a)) (yn rfl rfl rfl) (yj yj7 yp) (fn := Try.f61) (by kernel_rfl) (by kernel_rfl) (by kernel_rfl) ?_
  intro args H K h
  change y7u y2p args H K at h
  unfold y7u at h
  repeat first | (obtain ⟨_, h⟩ := h) | replace h := Des.el h
  subst_vars
  refine Eq.mpr (yfa y0a _ K) ?_
  unfold y2p at h
  revert h
  exact lpok_order_Sort_L1 _ _ _ _ K
theorem lpok_order_ranks_L3 (l2 : List Ev) (order : List Int) (t60 t61 : Int) (w : List Int) (K : V → Heap → Prop) : So (y5e l2 t60 w t61) (fun (x : (List Int) × Bool) => K (.tup [.row 2, vb x.2]) [.row 3 l2 true, .row 0 order true, .row 0 x.1 false]) → Loop y0w (⟨77, 2⟩ : Cx) (at_ (bodyOf Try.f90) [1, 1, 1, 1, 0, 1, 0, 0]) (mkEnv [(6, .row 2), (59, .row 0), (60, vi t60), (61, vi t61)]) [.row 3 l2 true, .row 0 order true, .row 0 w false] (contK y0w (⟨77, 2⟩ : Cx) (bodyOf Try.f90) [1, 1, 1, 1, 0, 1, 0] (retK y0w Try.f90 2 K)) := by
  refine loopK_So (fun (s_ : Int) => (mkEnv [(6, .row 2), (59, .row 0), (60, vi t60), (61, vi s_)])) (fun (s_ : Int) => [.row 3 l2 true, .row 0 order true, .row 0 w false]) (fun (x : (List Int) × Bool) => K (.tup [.row 2, vb x.2]) [.row 3 l2 true, .row 0 order true, .row 0 x.1 false]) ?_ t61
  intro s_ J1 h
  clear t61
  revert h; revert s_; intro t61 h
  refine Eq.mpr (yiv l2 order t60 t61 w K J1) ?_
  have h : So (y44 l2 t60 w t61) _ := h
  unfold y44 at h
  revert h
  exact br_So (req_So (req_So (br_So (req_So (req_So (br_So (fun h => h) (fun h => h)))) (fun h => h)))) (fun h => h)
theorem lpok_order_ranks_L2 (l2 : List Ev) (order : List Int) (t25 t26 : Int) (w : List Int) (K : V → Heap → Prop) : So (y5d l2 order t25 (t26, w)) (fun (x : (List Int) × Bool) => K (.tup [.row 2, vb x.2]) [.row 3 l2 true, .row 0 order true, .row 0 x.1 false]) → Loop y0w (⟨77, 2⟩ : Cx) (at_ (bodyOf Try.f90) [1, 1, 1, 0, 1, 0, 0]) (mkEnv [(0, .row 0), (6, .row 2), (24, .row 1), (25, vi t25), (26, vi t26)]) [.row 3 l2 true, .row 0 order true, .row 0 w false] (contK y0w (⟨77, 2⟩ : Cx) (bodyOf Try.f90) [1, 1, 1, 0, 1, 0] (retK y0w Try.f90 2 K)) := by
  refine loopK_So (fun (s_ : Int × (List Int)) => (mkEnv [(0, .row 0), (6, .row 2), (24, .row 1), (25, vi t25), (26, vi s_.1)])) (fun (s_ : Int × (List Int)) => [.row 3 l2 true, .row 0 order true, .row 0 (s_.2 : List Int) false]) (fun (x : (List Int) × Bool) => K (.tup [.row 2, vb x.2]) [.row 3 l2 true, .row 0 order true, .row 0 x.1 false]) ?_ (t26, w)
  intro s_ J1 h
  clear t26
  clear w
  obtain ⟨t26, w⟩ := s_
  refine Eq.mpr (yit l2 order t25 t26 w K J1) ?_
  have h : So (y4g l2 order t25 t26 w) _ := h
  unfold y4g at h
  revert h
  exact br_So (req_So (req_So (br_So (fun h => h) (br_So (fun h => h) (req_So (req_So (br_So (fun h => h) (req_So (req_So (br_So (fun h => h) (req_So (req_So (fun h => h))))))))))))) (mapK_So (lpok_order_ranks_L3 l2 order (↑l2.length : Int) 0 w K))
theorem lpok_order_ranks_L1 (l2 : List Ev) (order : List Int) (t16 t17 : Int) (w : List Int) (K : V → Heap → Prop) : So (y86 l2 order t16 (t17, w)) (fun (x : (List Int) × Bool) => K (.tup [.row 2, vb x.2]) [.row 3 l2 true, .row 0 order true, .row 0 x.1 false]) → Loop y0w (⟨77, 2⟩ : Cx) (at_ (bodyOf Try.f90) [1, 1, 0, 1, 0, 0]) (mkEnv [(0, .row 0), (1, .row 1), (6, .row 2), (16, vi t16), (17, vi t17)]) [.row 3 l2 true, .row 0 order true, .row 0 w false] (contK y0w (⟨77, 2⟩ : Cx) (bodyOf Try.f90) [1, 1, 0, 1, 0] (retK y0w Try.f90 2 K)) := by
  refine loopK_So (fun (s_ : Int × (List Int)) => (mkEnv [(0, .row 0), (1, .row 1), (6, .row 2), (16, vi t16), (17, vi s_.1)])) (fun (s_ : Int × (List Int)) => [.row 3 l2 true, .row 0 order true, .row 0 (s_.2 : List Int) false]) (fun (x : (List Int) × Bool) => K (.tup [.row 2, vb x.2]) [.row 3 l2 true, .row 0 order true, .row 0 x.1 false]) ?_ (t17, w)
  intro s_ J1 h
  clear t17
  clear w
  obtain ⟨t17, w⟩ := s_
  refine Eq.mpr (yep l2 order t16 t17 w K J1) ?_
  have h : So (y47 l2 order t16 t17 w) _ := h
  unfold y47 at h
  revert h
  exact br_So (req_So (req_So (fun h => h))) (mapK_So (lpok_order_ranks_L2 l2 order (↑order.length : Int) 0 w K))
theorem yf5 : SpecOK Try.prog elTT 90 (ye4 y08) := by
  refine spec_of_exF (cfg := y0w) (yn rfl rfl rfl) yp (fn := Try.f90) (by kernel_rfl) (by kernel_rfl) (by kernel_rfl) ?_
  intro args H K h
  change y8v y08 args H K at h
  unfold y8v at h
  repeat first | (obtain ⟨_, h⟩ := h) | replace h := Des.el h
  subst_vars
  refine Eq.mpr (yg5 _ _ K) ?_
  unfold y08 at h
  revert h
  exact req_So (lpok_order_ranks_L1 _ _ _ _ _ K)
theorem lpok_order_Check_L2 (l2 : List Ev) (order : List Int) (t20 t21 : Int) (w : List Int) (p : Int) (t28 t282 : Nat) (t29 t30 : Int) (K : V → Heap → Prop) (J1 : Env → Heap → Prop) : So (y5a l2 order t21 w p t28 t282 t29 t30) (sumK (fun (s_ : Int) => J1 (mkEnv [(0, .row 0), (1, .row 1), (5, .row 2), (19, .row 1), (20, vi t20), (21, vi s_)]) [.row 3 l2 true, .row 0 order true, .row 0 w false]) (fun (x : Int) => K (vi x) [.row 3 l2 true, .row 0 order true])) → Loop (y1e y08 y0b) (⟨56, 2⟩ : Cx) (at_ (bodyOf Try.f62) [1, 1, 1, 0, 1, 0, 0, 1, 1, 0, 0, 1, 1, 0, 0]) (mkEnv [(0, .row 0), (1, .row 1), (5, .row 2), (8, vi p), (19, .row 1), (20, vi t20), (21, vi t21), (28, .sub 1 t28 t282 1), (29, vi t29), (30, vi t30)]) [.row 3 l2 true, .row 0 order true, .row 0 w false] (contK (y1e y08 y0b) (⟨56, 2⟩ : Cx) (at_ (bodyOf Try.f62) [1, 1, 1, 0, 1, 0, 0]) [1, 1, 0, 0, 1, 1, 0] (roundK (y1e y08 y0b) (⟨56, 2⟩ : Cx) (at_ (bodyOf Try.f62) [1, 1, 1, 0, 1, 0, 0]) (contK (y1e y08 y0b) (⟨56, 2⟩ : Cx) (bodyOf Try.f62) [1, 1, 1, 0, 1, 0] (retK (y1e y08 y0b) Try.f62 2 K)) J1)) := by
  refine loopK_So (fun (s_ : Int) => (mkEnv [(0, .row 0), (1, .row 1), (5, .row 2), (8, vi p), (19, .row 1), (20, vi t20), (21, vi t21), (28, .sub 1 t28 t282 1), (29, vi t29), (30, vi s_)])) (fun (s_ : Int) => [.row 3 l2 true, .row 0 order true, .row 0 w false]) (sumK (fun (s_ : Int) => J1 (mkEnv [(0, .row 0), (1, .row 1), (5, .row 2), (19, .row 1), (20, vi t20), (21, vi s_)]) [.row 3 l2 true, .row 0 order true, .row 0 w false]) (fun (x : Int) => K (vi x) [.row 3 l2 true, .row 0 order true])) ?_ t30
  intro s_ J2 h
  clear t30
  revert h; revert s_; intro t30 h
  refine Eq.mpr (yi7 y08 y0b l2 order t20 t21 w p t28 t282 t29 t30 K J1 J2) ?_
  have h : So (y4e l2 order t21 w p t28 t282 t29 t30) _ := h
  unfold y4e at h
  revert h
  exact br_So (req_So (req_So (req_So (req_So (req_So (req_So (req_So (bind_So fun y0 => br_So (req_So (req_So (req_So (req_So (br_So (fun h => h) (fun h => h)))))) (fun h => h))))))))) (fun h => h)
theorem lpok_order_Check_L1 (l2 : List Ev) (order : List Int) (t20 t21 : Int) (w : List Int) (K : V → Heap → Prop) : So (y8n l2 order t20 w t21) (fun (x : Int) => K (vi x) [.row 3 l2 true, .row 0 order true]) → Loop (y1e y08 y0b) (⟨56, 2⟩ : Cx) (at_ (bodyOf Try.f62) [1, 1, 1, 0, 1, 0, 0]) (mkEnv [(0, .row 0), (1, .row 1), (5, .row 2), (19, .row 1), (20, vi t20), (21, vi t21)]) [.row 3 l2 true, .row 0 order true, .row 0 w false] (contK (y1e y08 y0b) (⟨56, 2⟩ : Cx) (bodyOf Try.f62) [1, 1, 1, 0, 1, 0] (retK (y1e y08 y0b) Try.f62 2 K)) := by
  refine loopK_So (fun (s_ : Int) => (mkEnv [(0, .row 0), (1, .row 1), (5, .row 2), (19, .row 1), (20, vi t20), (21, vi s_)])) (fun (s_ : Int) => [.row 3 l2 true, .row 0 order true, .row 0 w false]) (fun (x : Int) => K (vi x) [.row 3 l2 true, .row 0 order true]) ?_ t21
  intro s_ J1 h
  clear t21
  revert h; revert s_; intro t21 h
  refine Eq.mpr (yf3 y08 y0b l2 order t20 t21 w K J1) ?_
  have h : So (y4b l2 order t20 w t21) _ := h
  unfold y4b at h
  revert h
  exact br_So (req_So (req_So (req_So (lpok_order_Check_L2 l2 order t20 t21 w (order.getD (offs t21 0).toNat 0) 0 (Int.toNat t21) (↑(Int.toNat t21) : Int) 0 K J1)))) (fun h => h)
theorem ygi : SpecOK Try.prog elTT 62 (ye1 y31) := by
  refine spec_of_exF (cfg := (y1e y08 y0b)) (yn rfl rfl rfl) (yj yf5 (yj ygu yp)) (fn := Try.f62) (by kernel_rfl) (by kernel_rfl) (by kernel_rfl) ?_
  intro args H K h
  change y6n y31 args H K at h
  unfold y6n at h
  repeat first | (obtain ⟨_, h⟩ := h) | replace h := Des.el h
  subst_vars
  refine Eq.mpr (yi9 y08 y0b _ _ K) ?_
  unfold y31 at h
  revert h
  exact bind_So fun y0 => br_So (fun h => h) (lpok_order_Check_L1 _ _ _ _ _ K)
end Go.Rx
end

noncomputable section
namespace Go.Rx
open Go.Proofs
set_option maxRecDepth 100000
set_option maxHeartbeats 4000000
def y7h (m_ : Y1) (args : List V) (H : Heap) (K : V → Heap → Prop) : Prop :=
  aC args fun a0 r => aC r fun a1 r => aN r <| aAgg a0 fun c0 => y3h c0 fun a => aAgg a1 fun c1 => y3h c1 fun b => aN H <| So (m_ a b) fun x => K (vb x) []
def y7y (m_ : Y1) : Spec := ⟨y7h m_, (true : Bool)⟩
abbrev Y27 := Int → yh → Option Bool
def y8z (m_ : Y27) (args : List V) (H : Heap) (K : V → Heap → Prop) : Prop :=
  aC args fun a0 r => aC r fun a1 r => aN r <| aInt a0 fun workers => aAgg a1 fun c1 => y3h c1 fun e => aN H <| So (m_ workers e) fun x => K (vb x) []
def yao (m_ : Y27) : Spec := ⟨y8z m_, (true : Bool)⟩
def y8h (m_ : Y16) (args : List V) (H : Heap) (K : V → Heap → Prop) : Prop :=
  aC args fun a0 r => aC r fun a1 r => aN r <| aInt a0 fun workers => aRow 0 a1 <| aC H fun b0 r => aN r <| bRow 3 true b0 fun (l2 : List Ev) => So (m_ workers l2) fun x => K (vb x) [.row 3 l2 true]
def yce (m_ : Y16) : Spec := ⟨y8h m_, (true : Bool)⟩
def y5t (m_ : Y1) (args : List V) (H : Heap) (K : V → Heap → Prop) : Prop :=
  aC args fun a0 r => aC r fun a1 r => aN r <| aAgg a0 fun c0 => y3h c0 fun a => aAgg a1 fun c1 => y3h c1 fun b => aN H <| So (m_ a b) fun x => K (vb x) []
def yat (m_ : Y1) : Spec := ⟨y5t m_, (true : Bool)⟩
def y7m (m_ : Y17) (args : List V) (H : Heap) (K : V → Heap → Prop) : Prop :=
  aC args fun a0 r => aN r <| aRow 0 a0 <| aC H fun b0 r => aN r <| bRow 3 true b0 fun (l2 : List Ev) => So (m_ l2) fun x => K (.row 1) [.row 3 l2 true, .row 0 x false]
def ycn (m_ : Y17) : Spec := ⟨y7m m_, (true : Bool)⟩
def y7b (m_ : Y15) (args : List V) (H : Heap) (K : V → Heap → Prop) : Prop :=
  aC args fun a0 r => aC r fun a1 r => aN r <| aRow 0 a0 <| aRow 1 a1 <| aC H fun b0 r => aC r fun b1 r => aN r <| bRow 3 true b0 fun (l2 : List Ev) => bRow 0 true b1 fun (order : List Int) => So (m_ l2 order) fun x => K (vi x) [.row 3 l2 true, .row 0 order true]
def yb5 (m_ : Y15) : Spec := ⟨y7b m_, (true : Bool)⟩
def ybn  : Cfg := { cfgB with
  sigs := sigN }
def ydz  : Cfg := { cfgB with
  sigs := sigN }
def y0r (y04 : Y27) (yo : Y1) : Cfg := { cfgB with
  sigs := (sigC 92 (yao y04) (sigC 93 (y7y yo) sigN)),
  keep := fun r => match r with | 2 => some [(0, none), (1, some 3), (5, none)] | 7 => some [(0, none), (1, some 3), (5, none), (6, none)] | _ => none,
  plan := fun r => match r with | 4 => some (List.range 25, 0) | 9 => some (List.range 23, 0) | _ => none }
def ydl  : Cfg := { cfgB with
  sigs := sigN }
def y1g (y09 : Y1) : Cfg := { cfgB with
  sigs := (sigC 94 (yat y09) sigN),
  keep := fun r => match r with | 3 => some [(0, some 3), (3, some 0), (4, none)] | 7 => some [(0, some 3), (3, some 0), (4, none), (5, none)] | _ => none,
  plan := fun r => match r with | 7 => some (List.range 17, 0) | _ => none }
def y02 (yo : Y1) : Cfg := { cfgB with
  sigs := (sigC 93 (y7y yo) sigN),
  keep := fun r => match r with | 3 => some [(0, some 3), (1, some 0), (5, some 0), (6, none)] | 10 => some [(0, some 3), (5, some 0), (8, none)] | 15 => some [(0, some 3), (5, some 0), (9, none)] | 18 => some [(0, some 3), (5, some 0), (9, none), (10, none)] | _ => none,
  plan := fun r => match r with | 20 => some (List.range 34, 0) | _ => none }
theorem yjb (a b : yh) (K : V → Heap → Prop) : (exF ybn Try.f93 [.agg (y2c a), .agg (y2c b)] [] K) = (
    br a.Done (K (vb (decide (a.End < b.Begin))) []) (K (vb false) [])) := by kernel_rfl
theorem yek (workers : Int) (e : yh) (K : V → Heap → Prop) : (exF ydz Try.f92 [vi workers, .agg (y2c e)] [] K) = (
    br (decide (e.Begin < 0)) (K (vb false) []) (br (decide (e.Worker < 0)) (K (vb false) []) (br (decide (e.Worker ≥ workers)) (K (vb false) []) (br e.Done (br e.Sure (K (vb (decide (e.End > e.Begin))) []) (K (vb false) [])) (K (vb (e.End == 0)) []))))) := by kernel_rfl
theorem yei (y04 : Y27) (yo : Y1) (workers : Int) (l2 : List Ev) (iv k : Int) (K : V → Heap → Prop) (J1 : Env → Heap → Prop) (J2 : Env → Heap → Prop) : (ex (y0r y04 yo) (⟨66, 1⟩ : Cx) (at_ (bodyOf Try.f64) [1, 0, 1, 0, 0, 1, 0, 0, 1, 1, 0, 0]) (mkEnv [(0, vi workers), (1, .row 0), (5, vi iv), (6, vi k)]) [.row 3 (l2 : List Go.Rx.Ev) true] (roundK (y0r y04 yo) (⟨66, 1⟩ : Cx) (at_ (bodyOf Try.f64) [1, 0, 1, 0, 0, 1, 0, 0, 1, 1, 0, 0]) (contK (y0r y04 yo) (⟨66, 1⟩ : Cx) (at_ (bodyOf Try.f64) [1, 0, 1, 0, 0]) [1, 0, 0, 1, 1, 0] (roundK (y0r y04 yo) (⟨66, 1⟩ : Cx) (at_ (bodyOf Try.f64) [1, 0, 1, 0, 0]) (contK (y0r y04 yo) (⟨66, 1⟩ : Cx) (bodyOf Try.f64) [1, 0, 1, 0] (retK (y0r y04 yo) Try.f64 1 K)) J1)) J2)) = (
    br (decide (k < iv)) (Req (inR k l2.length) (Req (inR (offs k 0) l2.length) (Req (inR iv l2.length) (Req (inR (offs iv 0) l2.length) (br (Ev.Worker (l2.getD (offs k 0).toNat dEv) == Ev.Worker (l2.getD (offs iv 0).toNat dEv)) (Req (inR k l2.length) (Req (inR (offs k 0) l2.length) (Req (inR iv l2.length) (Req (inR (offs iv 0) l2.length) (So (yo (yh.mk (Ev.Worker (l2.getD (offs k 0).toNat dEv)) (yc.mk (Ev.CKind (l2.getD (offs k 0).toNat dEv)) (Ev.CAddr (l2.getD (offs k 0).toNat dEv)) (Ev.CSize (l2.getD (offs k 0).toNat dEv)) (Ev.CAlign (l2.getD (offs k 0).toNat dEv)) (Ev.CValue (l2.getD (offs k 0).toNat dEv))) (T_api_Reply.mk (Ev.RErr (l2.getD (offs k 0).toNat dEv)) (Ev.RAddr (l2.getD (offs k 0).toNat dEv)) (Ev.RSize (l2.getD (offs k 0).toNat dEv)) (Ev.RValue (l2.getD (offs k 0).toNat dEv)) (ya.mk (Ev.SBlocks (l2.getD (offs k 0).toNat dEv)) (Ev.SAsked (l2.getD (offs k 0).toNat dEv)) (Ev.SWords (l2.getD (offs k 0).toNat dEv)) (Ev.SKept (l2.getD (offs k 0).toNat dEv)) (Ev.SOpen (l2.getD (offs k 0).toNat dEv)) (Ev.SMapped (l2.getD (offs k 0).toNat dEv)) (Ev.SUsed (l2.getD (offs k 0).toNat dEv)))) (Ev.Begin (l2.getD (offs k 0).toNat dEv)) (Ev.End (l2.getD (offs k 0).toNat dEv)) (Ev.Stamp (l2.getD (offs k 0).toNat dEv)) (Ev.Wrote (l2.getD (offs k 0).toNat dEv)) (Ev.Sure (l2.getD (offs k 0).toNat dEv)) (Ev.Done (l2.getD (offs k 0).toNat dEv))) (yh.mk (Ev.Worker (l2.getD (offs iv 0).toNat dEv)) (yc.mk (Ev.CKind (l2.getD (offs iv 0).toNat dEv)) (Ev.CAddr (l2.getD (offs iv 0).toNat dEv)) (Ev.CSize (l2.getD (offs iv 0).toNat dEv)) (Ev.CAlign (l2.getD (offs iv 0).toNat dEv)) (Ev.CValue (l2.getD (offs iv 0).toNat dEv))) (T_api_Reply.mk (Ev.RErr (l2.getD (offs iv 0).toNat dEv)) (Ev.RAddr (l2.getD (offs iv 0).toNat dEv)) (Ev.RSize (l2.getD (offs iv 0).toNat dEv)) (Ev.RValue (l2.getD (offs iv 0).toNat dEv)) (ya.mk (Ev.SBlocks (l2.getD (offs iv 0).toNat dEv)) (Ev.SAsked (l2.getD (offs iv 0).toNat dEv)) (Ev.SWords (l2.getD (offs iv 0).toNat dEv)) (Ev.SKept (l2.getD (offs iv 0).toNat dEv)) (Ev.SOpen (l2.getD (offs iv 0).toNat dEv)) (Ev.SMapped (l2.getD (offs iv 0).toNat dEv)) (Ev.SUsed (l2.getD (offs iv 0).toNat dEv)))) (Ev.Begin (l2.getD (offs iv 0).toNat dEv)) (Ev.End (l2.getD (offs iv 0).toNat dEv)) (Ev.Stamp (l2.getD (offs iv 0).toNat dEv)) (Ev.Wrote (l2.getD (offs iv 0).toNat dEv)) (Ev.Sure (l2.getD (offs iv 0).toNat dEv)) (Ev.Done (l2.getD (offs iv 0).toNat dEv)))) (fun (y0 : Bool) => (br (!y0) (K (vb false) [.row 3 l2 true]) (J2 (mkEnv [(0, vi workers), (1, .row 0), (5, vi iv), (6, vi (IntKind.i64.wrap (k + 1)))]) [.row 3 l2 true])))))))) (J2 (mkEnv [(0, vi workers), (1, .row 0), (5, vi iv), (6, vi (IntKind.i64.wrap (k + 1)))]) [.row 3 l2 true])))))) (J1 (mkEnv [(0, vi workers), (1, .row 0), (5, vi (IntKind.i64.wrap (iv + 1)))]) [.row 3 l2 true])) := by kernel_rfl
theorem yh9 (y04 : Y27) (yo : Y1) (workers : Int) (l2 : List Ev) (iv : Int) (K : V → Heap → Prop) (J1 : Env → Heap → Prop) : (ex (y0r y04 yo) (⟨66, 1⟩ : Cx) (at_ (bodyOf Try.f64) [1, 0, 1, 0, 0]) (mkEnv [(0, vi workers), (1, .row 0), (5, vi iv)]) [.row 3 (l2 : List Go.Rx.Ev) true] (roundK (y0r y04 yo) (⟨66, 1⟩ : Cx) (at_ (bodyOf Try.f64) [1, 0, 1, 0, 0]) (contK (y0r y04 yo) (⟨66, 1⟩ : Cx) (bodyOf Try.f64) [1, 0, 1, 0] (retK (y0r y04 yo) Try.f64 1 K)) J1)) = (
    br (decide (iv < (↑l2.length : Int))) (Req (inR iv l2.length) (Req (inR (offs iv 0) l2.length) (So (y04 workers (yh.mk (Ev.Worker (l2.getD (offs iv 0).toNat dEv)) (yc.mk (Ev.CKind (l2.getD (offs iv 0).toNat dEv)) (Ev.CAddr (l2.getD (offs iv 0).toNat dEv)) (Ev.CSize (l2.getD (offs iv 0).toNat dEv)) (Ev.CAlign (l2.getD (offs iv 0).toNat dEv)) (Ev.CValue (l2.getD (offs iv 0).toNat dEv))) (T_api_Reply.mk (Ev.RErr (l2.getD (offs iv 0).toNat dEv)) (Ev.RAddr (l2.getD (offs iv 0).toNat dEv)) (Ev.RSize (l2.getD (offs iv 0).toNat dEv)) (Ev.RValue (l2.getD (offs iv 0).toNat dEv)) (ya.mk (Ev.SBlocks (l2.getD (offs iv 0).toNat dEv)) (Ev.SAsked (l2.getD (offs iv 0).toNat dEv)) (Ev.SWords (l2.getD (offs iv 0).toNat dEv)) (Ev.SKept (l2.getD (offs iv 0).toNat dEv)) (Ev.SOpen (l2.getD (offs iv 0).toNat dEv)) (Ev.SMapped (l2.getD (offs iv 0).toNat dEv)) (Ev.SUsed (l2.getD (offs iv 0).toNat dEv)))) (Ev.Begin (l2.getD (offs iv 0).toNat dEv)) (Ev.End (l2.getD (offs iv 0).toNat dEv)) (Ev.Stamp (l2.getD (offs iv 0).toNat dEv)) (Ev.Wrote (l2.getD (offs iv 0).toNat dEv)) (Ev.Sure (l2.getD (offs iv 0).toNat dEv)) (Ev.Done (l2.getD (offs iv 0).toNat dEv)))) (fun (y0 : Bool) => (br (!y0) (K (vb false) [.row 3 l2 true]) (br (decide (iv > 0)) (Req (inR (IntKind.i64.wrap (iv - 1)) l2.length) (Req (inR (offs (IntKind.i64.wrap (iv - 1)) 0) l2.length) (Req (inR iv l2.length) (Req (inR (offs iv 0) l2.length) (br (decide (Ev.Begin (l2.getD (Int.toNat (offs (IntKind.i64.wrap (iv - 1)) 0)) dEv) ≥ Ev.Begin (l2.getD (offs iv 0).toNat dEv))) (K (vb false) [.row 3 l2 true]) (Loop (y0r y04 yo) (⟨66, 1⟩ : Cx) (at_ (bodyOf Try.f64) [1, 0, 1, 0, 0, 1, 0, 0, 1, 1, 0, 0]) (mkEnv [(0, vi workers), (1, .row 0), (5, vi iv), (6, vi 0)]) [.row 3 l2 true] (contK (y0r y04 yo) (⟨66, 1⟩ : Cx) (at_ (bodyOf Try.f64) [1, 0, 1, 0, 0]) [1, 0, 0, 1, 1, 0] (roundK (y0r y04 yo) (⟨66, 1⟩ : Cx) (at_ (bodyOf Try.f64) [1, 0, 1, 0, 0]) (contK (y0r y04 yo) (⟨66, 1⟩ : Cx) (bodyOf Try.f64) [1, 0, 1, 0] (retK (y0r y04 yo) Try.f64 1 K)) J1)))))))) (Loop (y0r y04 yo) (⟨66, 1⟩ : Cx) (at_ (bodyOf Try.f64) [1, 0, 1, 0, 0, 1, 0, 0, 1, 1, 0, 0]) (mkEnv [(0, vi workers), (1, .row 0), (5, vi iv), (6, vi 0)]) [.row 3 l2 true] (contK (y0r y04 yo) (⟨66, 1⟩ : Cx) (at_ (bodyOf Try.f64) [1, 0, 1, 0, 0]) [1, 0, 0, 1, 1, 0] (roundK (y0r y04 yo) (⟨66, 1⟩ : Cx) (at_ (bodyOf Try.f64) [1, 0, 1, 0, 0]) (contK (y0r y04 yo) (⟨66, 1⟩ : Cx) (bodyOf Try.f64) [1, 0, 1, 0] (retK (y0r y04 yo) Try.f64 1 K)) J1))))))))) (K (vb true) [.row 3 l2 true])) := by kernel_rfl
theorem yhs (y04 : Y27) (yo : Y1) (workers : Int) (l2 : List Ev) (K : V → Heap → Prop) : (exF (y0r y04 yo) Try.f64 [vi workers, .row 0] [.row 3 l2 true] K) = (
    Loop (y0r y04 yo) (⟨66, 1⟩ : Cx) (at_ (bodyOf Try.f64) [1, 0, 1, 0, 0]) (mkEnv [(0, vi workers), (1, .row 0), (5, vi 0)]) [.row 3 l2 true] (contK (y0r y04 yo) (⟨66, 1⟩ : Cx) (bodyOf Try.f64) [1, 0, 1, 0] (retK (y0r y04 yo) Try.f64 1 K))) := by kernel_rfl
theorem yga (a b : yh) (K : V → Heap → Prop) : (exF ydl Try.f94 [.agg (y2c a), .agg (y2c b)] [] K) = (
    br (a.Stamp != b.Stamp) (K (vb (decide (a.Stamp < b.Stamp))) []) (br (!a.Wrote == b.Wrote) (K (vb a.Wrote) []) (br (!a.Done == b.Done) (K (vb a.Done) []) (br a.Done (K (vb (decide (a.End < b.End))) []) (K (vb false) []))))) := by kernel_rfl
theorem ygn (y09 : Y1) (l2 : List Ev) (iv : Int) (w : List Int) (k : Int) (K : V → Heap → Prop) (J1 : Env → Heap → Prop) (J2 : Env → Heap → Prop) : (ex (y1g y09) (⟨55, 1⟩ : Cx) (at_ (bodyOf Try.f65) [1, 1, 0, 1, 0, 0, 1, 0, 0, 1, 1, 0, 0, 0]) (mkEnv [(0, .row 0), (3, .row 1), (4, vi iv), (5, vi k)]) [.row 3 (l2 : List Go.Rx.Ev) true, .row 0 w false] (roundK (y1g y09) (⟨55, 1⟩ : Cx) (at_ (bodyOf Try.f65) [1, 1, 0, 1, 0, 0, 1, 0, 0, 1, 1, 0, 0, 0]) (contK (y1g y09) (⟨55, 1⟩ : Cx) (at_ (bodyOf Try.f65) [1, 1, 0, 1, 0, 0]) [1, 0, 0, 1, 1, 0, 0] (roundK (y1g y09) (⟨55, 1⟩ : Cx) (at_ (bodyOf Try.f65) [1, 1, 0, 1, 0, 0]) (contK (y1g y09) (⟨55, 1⟩ : Cx) (bodyOf Try.f65) [1, 1, 0, 1, 0] (retK (y1g y09) Try.f65 1 K)) J1)) J2)) = (
    br (decide (k > 0)) (Req (inR iv l2.length) (Req (inR (offs iv 0) l2.length) (Req (inR (IntKind.i64.wrap (k - 1)) w.length) (Req (inR (offs (IntKind.i64.wrap (k - 1)) 0) w.length) (Req (inR (w.getD (Int.toNat (offs (IntKind.i64.wrap (k - 1)) 0)) 0) l2.length) (Req (inR (offs (w.getD (Int.toNat (offs (IntKind.i64.wrap (k - 1)) 0)) 0) 0) l2.length) (So (y09 (yh.mk (Ev.Worker (l2.getD (offs iv 0).toNat dEv)) (yc.mk (Ev.CKind (l2.getD (offs iv 0).toNat dEv)) (Ev.CAddr (l2.getD (offs iv 0).toNat dEv)) (Ev.CSize (l2.getD (offs iv 0).toNat dEv)) (Ev.CAlign (l2.getD (offs iv 0).toNat dEv)) (Ev.CValue (l2.getD (offs iv 0).toNat dEv))) (T_api_Reply.mk (Ev.RErr (l2.getD (offs iv 0).toNat dEv)) (Ev.RAddr (l2.getD (offs iv 0).toNat dEv)) (Ev.RSize (l2.getD (offs iv 0).toNat dEv)) (Ev.RValue (l2.getD (offs iv 0).toNat dEv)) (ya.mk (Ev.SBlocks (l2.getD (offs iv 0).toNat dEv)) (Ev.SAsked (l2.getD (offs iv 0).toNat dEv)) (Ev.SWords (l2.getD (offs iv 0).toNat dEv)) (Ev.SKept (l2.getD (offs iv 0).toNat dEv)) (Ev.SOpen (l2.getD (offs iv 0).toNat dEv)) (Ev.SMapped (l2.getD (offs iv 0).toNat dEv)) (Ev.SUsed (l2.getD (offs iv 0).toNat dEv)))) (Ev.Begin (l2.getD (offs iv 0).toNat dEv)) (Ev.End (l2.getD (offs iv 0).toNat dEv)) (Ev.Stamp (l2.getD (offs iv 0).toNat dEv)) (Ev.Wrote (l2.getD (offs iv 0).toNat dEv)) (Ev.Sure (l2.getD (offs iv 0).toNat dEv)) (Ev.Done (l2.getD (offs iv 0).toNat dEv))) (yh.mk (Ev.Worker (l2.getD (Int.toNat (offs (w.getD (Int.toNat (offs (IntKind.i64.wrap (k - 1)) 0)) 0) 0)) dEv)) (yc.mk (Ev.CKind (l2.getD (Int.toNat (offs (w.getD (Int.toNat (offs (IntKind.i64.wrap (k - 1)) 0)) 0) 0)) dEv)) (Ev.CAddr (l2.getD (Int.toNat (offs (w.getD (Int.toNat (offs (IntKind.i64.wrap (k - 1)) 0)) 0) 0)) dEv)) (Ev.CSize (l2.getD (Int.toNat (offs (w.getD (Int.toNat (offs (IntKind.i64.wrap (k - 1)) 0)) 0) 0)) dEv)) (Ev.CAlign (l2.getD (Int.toNat (offs (w.getD (Int.toNat (offs (IntKind.i64.wrap (k - 1)) 0)) 0) 0)) dEv)) (Ev.CValue (l2.getD (Int.toNat (offs (w.getD (Int.toNat (offs (IntKind.i64.wrap (k - 1)) 0)) 0) 0)) dEv))) (T_api_Reply.mk (Ev.RErr (l2.getD (Int.toNat (offs (w.getD (Int.toNat (offs (IntKind.i64.wrap (k - 1)) 0)) 0) 0)) dEv)) (Ev.RAddr (l2.getD (Int.toNat (offs (w.getD (Int.toNat (offs (IntKind.i64.wrap (k - 1)) 0)) 0) 0)) dEv)) (Ev.RSize (l2.getD (Int.toNat (offs (w.getD (Int.toNat (offs (IntKind.i64.wrap (k - 1)) 0)) 0) 0)) dEv)) (Ev.RValue (l2.getD (Int.toNat (offs (w.getD (Int.toNat (offs (IntKind.i64.wrap (k - 1)) 0)) 0) 0)) dEv)) (ya.mk (Ev.SBlocks (l2.getD (Int.toNat (offs (w.getD (Int.toNat (offs (IntKind.i64.wrap (k - 1)) 0)) 0) 0)) dEv)) (Ev.SAsked (l2.getD (Int.toNat (offs (w.getD (Int.toNat (offs (IntKind.i64.wrap (k - 1)) 0)) 0) 0)) dEv)) (Ev.SWords (l2.getD (Int.toNat (offs (w.getD (Int.toNat (offs (IntKind.i64.wrap (k - 1)) 0)) 0) 0)) dEv)) (Ev.SKept (l2.getD (Int.toNat (offs (w.getD (Int.toNat (offs (IntKind.i64.wrap (k - 1)) 0)) 0) 0)) dEv)) (Ev.SOpen (l2.getD (Int.toNat (offs (w.getD (Int.toNat (offs (IntKind.i64.wrap (k - 1)) 0)) 0) 0)) dEv)) (Ev.SMapped (l2.getD (Int.toNat (offs (w.getD (Int.toNat (offs (IntKind.i64.wrap (k - 1)) 0)) 0) 0)) dEv)) (Ev.SUsed (l2.getD (Int.toNat (offs (w.getD (Int.toNat (offs (IntKind.i64.wrap (k - 1)) 0)) 0) 0)) dEv)))) (Ev.Begin (l2.getD (Int.toNat (offs (w.getD (Int.toNat (offs (IntKind.i64.wrap (k - 1)) 0)) 0) 0)) dEv)) (Ev.End (l2.getD (Int.toNat (offs (w.getD (Int.toNat (offs (IntKind.i64.wrap (k - 1)) 0)) 0) 0)) dEv)) (Ev.Stamp (l2.getD (Int.toNat (offs (w.getD (Int.toNat (offs (IntKind.i64.wrap (k - 1)) 0)) 0) 0)) dEv)) (Ev.Wrote (l2.getD (Int.toNat (offs (w.getD (Int.toNat (offs (IntKind.i64.wrap (k - 1)) 0)) 0) 0)) dEv)) (Ev.Sure (l2.getD (Int.toNat (offs (w.getD (Int.toNat (offs (IntKind.i64.wrap (k - 1)) 0)) 0) 0)) dEv)) (Ev.Done (l2.getD (Int.toNat (offs (w.getD (Int.toNat (offs (IntKind.i64.wrap (k - 1)) 0)) 0) 0)) dEv)))) (fun (y0 : Bool) => (br y0 (J2 (mkEnv [(0, .row 0), (3, .row 1), (4, vi iv), (5, vi (IntKind.i64.wrap (k - 1)))]) [.row 3 l2 true, .row 0 w false]) (Req (decide (0 ≤ k ∧ k ≤ (↑w.length : Int))) (Req (decide (0 + Int.toNat k ≤ w.length)) (Req (decide (0 + List.length (List.take (Int.toNat k) (List.drop 0 w)) ≤ 1048576)) (Req (decide (List.length (List.take (Int.toNat k) (List.drop 0 w)) + 1 ≤ 1048576)) (Req (decide (0 ≤ k ∧ k ≤ (↑w.length : Int))) (Req (decide (Int.toNat k + (w.length - Int.toNat k) ≤ w.length)) (Req (decide (List.length (List.take (Int.toNat k) (List.drop 0 w) ++ [iv]) + List.length (List.take (w.length - Int.toNat k) (List.drop (Int.toNat k) w)) ≤ 1048576)) (J1 (mkEnv [(0, .row 0), (3, .row 1), (4, vi (IntKind.i64.wrap (iv + 1)))]) [.row 3 l2 true, .row 0 (List.take (Int.toNat k) (List.drop 0 w) ++ [iv] ++ List.take (w.length - Int.toNat k) (List.drop (Int.toNat k) w) : List Int) false]))))))))))))))))) (Req (decide (0 ≤ k ∧ k ≤ (↑w.length : Int))) (Req (decide (0 + Int.toNat k ≤ w.length)) (Req (decide (0 + List.length (List.take (Int.toNat k) (List.drop 0 w)) ≤ 1048576)) (Req (decide (List.length (List.take (Int.toNat k) (List.drop 0 w)) + 1 ≤ 1048576)) (Req (decide (0 ≤ k ∧ k ≤ (↑w.length : Int))) (Req (decide (Int.toNat k + (w.length - Int.toNat k) ≤ w.length)) (Req (decide (List.length (List.take (Int.toNat k) (List.drop 0 w) ++ [iv]) + List.length (List.take (w.length - Int.toNat k) (List.drop (Int.toNat k) w)) ≤ 1048576)) (J1 (mkEnv [(0, .row 0), (3, .row 1), (4, vi (IntKind.i64.wrap (iv + 1)))]) [.row 3 l2 true, .row 0 (List.take (Int.toNat k) (List.drop 0 w) ++ [iv] ++ List.take (w.length - Int.toNat k) (List.drop (Int.toNat k) w) : List Int) false]))))))))) := by kernel_rfl
theorem yjv (y09 : Y1) (l2 : List Ev) (iv : Int) (w : List Int) (K : V → Heap → Prop) (J1 : Env → Heap → Prop) : (ex (y1g y09) (⟨55, 1⟩ : Cx) (at_ (bodyOf Try.f65) [1, 1, 0, 1, 0, 0]) (mkEnv [(0, .row 0), (3, .row 1), (4, vi iv)]) [.row 3 (l2 : List Go.Rx.Ev) true, .row 0 w false] (roundK (y1g y09) (⟨55, 1⟩ : Cx) (at_ (bodyOf Try.f65) [1, 1, 0, 1, 0, 0]) (contK (y1g y09) (⟨55, 1⟩ : Cx) (bodyOf Try.f65) [1, 1, 0, 1, 0] (retK (y1g y09) Try.f65 1 K)) J1)) = (
    br (decide (iv < (↑l2.length : Int))) (Req (inR iv l2.length) (Req (inR (offs iv 0) l2.length) (br (!Ev.Sure (l2.getD (offs iv 0).toNat dEv)) (J1 (mkEnv [(0, .row 0), (3, .row 1), (4, vi (IntKind.i64.wrap (iv + 1)))]) [.row 3 l2 true, .row 0 w false]) (Loop (y1g y09) (⟨55, 1⟩ : Cx) (at_ (bodyOf Try.f65) [1, 1, 0, 1, 0, 0, 1, 0, 0, 1, 1, 0, 0, 0]) (mkEnv [(0, .row 0), (3, .row 1), (4, vi iv), (5, vi (↑w.length : Int))]) [.row 3 l2 true, .row 0 w false] (contK (y1g y09) (⟨55, 1⟩ : Cx) (at_ (bodyOf Try.f65) [1, 1, 0, 1, 0, 0]) [1, 0, 0, 1, 1, 0, 0] (roundK (y1g y09) (⟨55, 1⟩ : Cx) (at_ (bodyOf Try.f65) [1, 1, 0, 1, 0, 0]) (contK (y1g y09) (⟨55, 1⟩ : Cx) (bodyOf Try.f65) [1, 1, 0, 1, 0] (retK (y1g y09) Try.f65 1 K)) J1)))))) (K (.row 1) [.row 3 l2 true, .row 0 w false])) := by kernel_rfl
theorem yh0 (y09 : Y1) (l2 : List Ev) (K : V → Heap → Prop) : (exF (y1g y09) Try.f65 [.row 0] [.row 3 l2 true] K) = (
    Loop (y1g y09) (⟨55, 1⟩ : Cx) (at_ (bodyOf Try.f65) [1, 1, 0, 1, 0, 0]) (mkEnv [(0, .row 0), (3, .row 1), (4, vi 0)]) [.row 3 l2 true, .row 0 ([] : List Int) false] (contK (y1g y09) (⟨55, 1⟩ : Cx) (bodyOf Try.f65) [1, 1, 0, 1, 0] (retK (y1g y09) Try.f65 1 K))) := by kernel_rfl
theorem yhj (yo : Y1) (l2 : List Ev) (order : List Int) (p : Int) (w : List Int) (q : Int) (K : V → Heap → Prop) (J1 : Env → Heap → Prop) (J2 : Env → Heap → Prop) : (ex (y02 yo) (⟨116, 2⟩ : Cx) (at_ (bodyOf Try.f66) [1, 1, 1, 1, 0, 1, 0, 0, 1, 0, 0, 1, 0, 0]) (mkEnv [(0, .row 0), (5, .row 2), (9, vi p), (10, vi q)]) [.row 3 (l2 : List Go.Rx.Ev) true, .row 0 order true, .row 0 w false] (roundK (y02 yo) (⟨116, 2⟩ : Cx) (at_ (bodyOf Try.f66) [1, 1, 1, 1, 0, 1, 0, 0, 1, 0, 0, 1, 0, 0]) (contK (y02 yo) (⟨116, 2⟩ : Cx) (at_ (bodyOf Try.f66) [1, 1, 1, 1, 0, 1, 0, 0]) [1, 0, 0, 1, 0] (roundK (y02 yo) (⟨116, 2⟩ : Cx) (at_ (bodyOf Try.f66) [1, 1, 1, 1, 0, 1, 0, 0]) (contK (y02 yo) (⟨116, 2⟩ : Cx) (bodyOf Try.f66) [1, 1, 1, 1, 0, 1, 0] (retK (y02 yo) Try.f66 2 K)) J1)) J2)) = (
    br (decide (q < (↑l2.length : Int))) (Req (inR p w.length) (Req (inR (offs p 0) w.length) (br (w.getD (offs p 0).toNat 0 != 0) (Req (inR q w.length) (Req (inR (offs q 0) w.length) (br (w.getD (offs q 0).toNat 0 != 0) (Req (inR p l2.length) (Req (inR (offs p 0) l2.length) (Req (inR q l2.length) (Req (inR (offs q 0) l2.length) (So (yo (yh.mk (Ev.Worker (l2.getD (offs p 0).toNat dEv)) (yc.mk (Ev.CKind (l2.getD (offs p 0).toNat dEv)) (Ev.CAddr (l2.getD (offs p 0).toNat dEv)) (Ev.CSize (l2.getD (offs p 0).toNat dEv)) (Ev.CAlign (l2.getD (offs p 0).toNat dEv)) (Ev.CValue (l2.getD (offs p 0).toNat dEv))) (T_api_Reply.mk (Ev.RErr (l2.getD (offs p 0).toNat dEv)) (Ev.RAddr (l2.getD (offs p 0).toNat dEv)) (Ev.RSize (l2.getD (offs p 0).toNat dEv)) (Ev.RValue (l2.getD (offs p 0).toNat dEv)) (ya.mk (Ev.SBlocks (l2.getD (offs p 0).toNat dEv)) (Ev.SAsked (l2.getD (offs p 0).toNat dEv)) (Ev.SWords (l2.getD (offs p 0).toNat dEv)) (Ev.SKept (l2.getD (offs p 0).toNat dEv)) (Ev.SOpen (l2.getD (offs p 0).toNat dEv)) (Ev.SMapped (l2.getD (offs p 0).toNat dEv)) (Ev.SUsed (l2.getD (offs p 0).toNat dEv)))) (Ev.Begin (l2.getD (offs p 0).toNat dEv)) (Ev.End (l2.getD (offs p 0).toNat dEv)) (Ev.Stamp (l2.getD (offs p 0).toNat dEv)) (Ev.Wrote (l2.getD (offs p 0).toNat dEv)) (Ev.Sure (l2.getD (offs p 0).toNat dEv)) (Ev.Done (l2.getD (offs p 0).toNat dEv))) (yh.mk (Ev.Worker (l2.getD (offs q 0).toNat dEv)) (yc.mk (Ev.CKind (l2.getD (offs q 0).toNat dEv)) (Ev.CAddr (l2.getD (offs q 0).toNat dEv)) (Ev.CSize (l2.getD (offs q 0).toNat dEv)) (Ev.CAlign (l2.getD (offs q 0).toNat dEv)) (Ev.CValue (l2.getD (offs q 0).toNat dEv))) (T_api_Reply.mk (Ev.RErr (l2.getD (offs q 0).toNat dEv)) (Ev.RAddr (l2.getD (offs q 0).toNat dEv)) (Ev.RSize (l2.getD (offs q 0).toNat dEv)) (Ev.RValue (l2.getD (offs q 0).toNat dEv)) (ya.mk (Ev.SBlocks (l2.getD (offs q 0).toNat dEv)) (Ev.SAsked (l2.getD (offs q 0).toNat dEv)) (Ev.SWords (l2.getD (offs q 0).toNat dEv)) (Ev.SKept (l2.getD (offs q 0).toNat dEv)) (Ev.SOpen (l2.getD (offs q 0).toNat dEv)) (Ev.SMapped (l2.getD (offs q 0).toNat dEv)) (Ev.SUsed (l2.getD (offs q 0).toNat dEv)))) (Ev.Begin (l2.getD (offs q 0).toNat dEv)) (Ev.End (l2.getD (offs q 0).toNat dEv)) (Ev.Stamp (l2.getD (offs q 0).toNat dEv)) (Ev.Wrote (l2.getD (offs q 0).toNat dEv)) (Ev.Sure (l2.getD (offs q 0).toNat dEv)) (Ev.Done (l2.getD (offs q 0).toNat dEv)))) (fun (y0 : Bool) => (br y0 (Req (inR q w.length) (Req (inR (offs q 0) w.length) (Req (inR p w.length) (Req (inR (offs p 0) w.length) (br (decide (w.getD (offs q 0).toNat 0 < w.getD (offs p 0).toNat 0)) (K (vi 17) [.row 3 l2 true, .row 0 order true]) (J2 (mkEnv [(0, .row 0), (5, .row 2), (9, vi p), (10, vi (IntKind.i64.wrap (q + 1)))]) [.row 3 l2 true, .row 0 order true, .row 0 w false])))))) (J2 (mkEnv [(0, .row 0), (5, .row 2), (9, vi p), (10, vi (IntKind.i64.wrap (q + 1)))]) [.row 3 l2 true, .row 0 order true, .row 0 w false])))))))) (J2 (mkEnv [(0, .row 0), (5, .row 2), (9, vi p), (10, vi (IntKind.i64.wrap (q + 1)))]) [.row 3 l2 true, .row 0 order true, .row 0 w false])))) (J2 (mkEnv [(0, .row 0), (5, .row 2), (9, vi p), (10, vi (IntKind.i64.wrap (q + 1)))]) [.row 3 l2 true, .row 0 order true, .row 0 w false])))) (J1 (mkEnv [(0, .row 0), (5, .row 2), (9, vi (IntKind.i64.wrap (p + 1)))]) [.row 3 l2 true, .row 0 order true, .row 0 w false])) := by kernel_rfl
theorem yfy (yo : Y1) (l2 : List Ev) (order : List Int) (p : Int) (w : List Int) (K : V → Heap → Prop) (J1 : Env → Heap → Prop) : (ex (y02 yo) (⟨116, 2⟩ : Cx) (at_ (bodyOf Try.f66) [1, 1, 1, 1, 0, 1, 0, 0]) (mkEnv [(0, .row 0), (5, .row 2), (9, vi p)]) [.row 3 (l2 : List Go.Rx.Ev) true, .row 0 order true, .row 0 w false] (roundK (y02 yo) (⟨116, 2⟩ : Cx) (at_ (bodyOf Try.f66) [1, 1, 1, 1, 0, 1, 0, 0]) (contK (y02 yo) (⟨116, 2⟩ : Cx) (bodyOf Try.f66) [1, 1, 1, 1, 0, 1, 0] (retK (y02 yo) Try.f66 2 K)) J1)) = (
    br (decide (p < (↑l2.length : Int))) (Loop (y02 yo) (⟨116, 2⟩ : Cx) (at_ (bodyOf Try.f66) [1, 1, 1, 1, 0, 1, 0, 0, 1, 0, 0, 1, 0, 0]) (mkEnv [(0, .row 0), (5, .row 2), (9, vi p), (10, vi 0)]) [.row 3 l2 true, .row 0 order true, .row 0 w false] (contK (y02 yo) (⟨116, 2⟩ : Cx) (at_ (bodyOf Try.f66) [1, 1, 1, 1, 0, 1, 0, 0]) [1, 0, 0, 1, 0] (roundK (y02 yo) (⟨116, 2⟩ : Cx) (at_ (bodyOf Try.f66) [1, 1, 1, 1, 0, 1, 0, 0]) (contK (y02 yo) (⟨116, 2⟩ : Cx) (bodyOf Try.f66) [1, 1, 1, 1, 0, 1, 0] (retK (y02 yo) Try.f66 2 K)) J1))) (K (vi 0) [.row 3 l2 true, .row 0 order true])) := by kernel_rfl
theorem yhr (yo : Y1) (l2 : List Ev) (order : List Int) (p : Int) (w : List Int) (K : V → Heap → Prop) (J1 : Env → Heap → Prop) : (ex (y02 yo) (⟨116, 2⟩ : Cx) (at_ (bodyOf Try.f66) [1, 1, 1, 0, 1, 0, 0]) (mkEnv [(0, .row 0), (5, .row 2), (8, vi p)]) [.row 3 (l2 : List Go.Rx.Ev) true, .row 0 order true, .row 0 w false] (roundK (y02 yo) (⟨116, 2⟩ : Cx) (at_ (bodyOf Try.f66) [1, 1, 1, 0, 1, 0, 0]) (contK (y02 yo) (⟨116, 2⟩ : Cx) (bodyOf Try.f66) [1, 1, 1, 0, 1, 0] (retK (y02 yo) Try.f66 2 K)) J1)) = (
    br (decide (p < (↑l2.length : Int))) (Req (inR p l2.length) (Req (inR (offs p 0) l2.length) (br (Ev.Done (l2.getD (offs p 0).toNat dEv)) (Req (inR p w.length) (Req (inR (offs p 0) w.length) (br (w.getD (offs p 0).toNat 0 == 0) (K (vi 2) [.row 3 l2 true, .row 0 order true]) (J1 (mkEnv [(0, .row 0), (5, .row 2), (8, vi (IntKind.i64.wrap (p + 1)))]) [.row 3 l2 true, .row 0 order true, .row 0 w false])))) (J1 (mkEnv [(0, .row 0), (5, .row 2), (8, vi (IntKind.i64.wrap (p + 1)))]) [.row 3 l2 true, .row 0 order true, .row 0 w false])))) (Loop (y02 yo) (⟨116, 2⟩ : Cx) (at_ (bodyOf Try.f66) [1, 1, 1, 1, 0, 1, 0, 0]) (mkEnv [(0, .row 0), (5, .row 2), (9, vi 0)]) [.row 3 l2 true, .row 0 order true, .row 0 w false] (contK (y02 yo) (⟨116, 2⟩ : Cx) (bodyOf Try.f66) [1, 1, 1, 1, 0, 1, 0] (retK (y02 yo) Try.f66 2 K)))) := by kernel_rfl
theorem yes (yo : Y1) (l2 : List Ev) (order : List Int) (iv : Int) (w : List Int) (K : V → Heap → Prop) (J1 : Env → Heap → Prop) : (ex (y02 yo) (⟨116, 2⟩ : Cx) (at_ (bodyOf Try.f66) [1, 1, 0, 1, 0, 0]) (mkEnv [(0, .row 0), (1, .row 1), (5, .row 2), (6, vi iv)]) [.row 3 (l2 : List Go.Rx.Ev) true, .row 0 order true, .row 0 w false] (roundK (y02 yo) (⟨116, 2⟩ : Cx) (at_ (bodyOf Try.f66) [1, 1, 0, 1, 0, 0]) (contK (y02 yo) (⟨116, 2⟩ : Cx) (bodyOf Try.f66) [1, 1, 0, 1, 0] (retK (y02 yo) Try.f66 2 K)) J1)) = (
    br (decide (iv < (↑order.length : Int))) (Req (inR iv order.length) (Req (inR (offs iv 0) order.length) (br (decide (order.getD (offs iv 0).toNat 0 < 0)) (K (vi 2) [.row 3 l2 true, .row 0 order true]) (br (decide (order.getD (offs iv 0).toNat 0 ≥ (↑l2.length : Int))) (K (vi 2) [.row 3 l2 true, .row 0 order true]) (Req (inR (order.getD (offs iv 0).toNat 0) w.length) (Req (inR (offs (order.getD (offs iv 0).toNat 0) 0) w.length) (br (w.getD (Int.toNat (offs (order.getD (offs iv 0).toNat 0) 0)) 0 != 0) (K (vi 2) [.row 3 l2 true, .row 0 order true]) (Req (inR (order.getD (offs iv 0).toNat 0) l2.length) (Req (inR (offs (order.getD (offs iv 0).toNat 0) 0) l2.length) (br (!Ev.Sure (l2.getD (Int.toNat (offs (order.getD (offs iv 0).toNat 0) 0)) dEv)) (K (vi 2) [.row 3 l2 true, .row 0 order true]) (Req (inR (order.getD (offs iv 0).toNat 0) w.length) (Req (inR (offs (order.getD (offs iv 0).toNat 0) 0) w.length) (J1 (mkEnv [(0, .row 0), (1, .row 1), (5, .row 2), (6, vi (IntKind.i64.wrap (iv + 1)))]) [.row 3 l2 true, .row 0 order true, .row 0 (List.set w (Int.toNat (offs (order.getD (offs iv 0).toNat 0) 0)) (IntKind.i64.wrap (iv + 1)) : List Int) false]))))))))))))) (Loop (y02 yo) (⟨116, 2⟩ : Cx) (at_ (bodyOf Try.f66) [1, 1, 1, 0, 1, 0, 0]) (mkEnv [(0, .row 0), (5, .row 2), (8, vi 0)]) [.row 3 l2 true, .row 0 order true, .row 0 w false] (contK (y02 yo) (⟨116, 2⟩ : Cx) (bodyOf Try.f66) [1, 1, 1, 0, 1, 0] (retK (y02 yo) Try.f66 2 K)))) := by kernel_rfl
theorem yfp (yo : Y1) (l2 : List Ev) (order : List Int) (K : V → Heap → Prop) : (exF (y02 yo) Try.f66 [.row 0, .row 1] [.row 3 l2 true, .row 0 order true] K) = (
    Req (decide (0 ≤ (↑l2.length : Int) ∧ (↑l2.length : Int) ≤ (↑l2.length : Int) ∧ (↑l2.length : Int) ≤ 1048576)) (Loop (y02 yo) (⟨116, 2⟩ : Cx) (at_ (bodyOf Try.f66) [1, 1, 0, 1, 0, 0]) (mkEnv [(0, .row 0), (1, .row 1), (5, .row 2), (6, vi 0)]) [.row 3 l2 true, .row 0 order true, .row 0 (List.replicate (Int.toNat (↑l2.length : Int)) (0 : Int) : List Int) false] (contK (y02 yo) (⟨116, 2⟩ : Cx) (bodyOf Try.f66) [1, 1, 0, 1, 0] (retK (y02 yo) Try.f66 2 K)))) := by kernel_rfl
def yo (a b : yh) : Option Bool :=
  (bif a.Done then some (decide (a.End < b.Begin)) else some false)
def y04 (workers : Int) (e : yh) : Option Bool :=
  (bif (decide (e.Begin < 0)) then some false else (bif (decide (e.Worker < 0)) then some false else (bif (decide (e.Worker ≥ workers)) then some false else (bif e.Done then (bif e.Sure then some (decide (e.End > e.Begin)) else some false) else some (e.End == 0)))))
def y4o (l2 : List Ev) (iv k : Int) : Option (Int ⊕ (Int ⊕ Bool)) :=
  (bif (decide (k < iv)) then (bif (inR k l2.length) then (bif (inR (offs k 0) l2.length) then (bif (inR iv l2.length) then (bif (inR (offs iv 0) l2.length) then (bif (Ev.Worker (l2.getD (offs k 0).toNat dEv) == Ev.Worker (l2.getD (offs iv 0).toNat dEv)) then (bif (inR k l2.length) then (bif (inR (offs k 0) l2.length) then (bif (inR iv l2.length) then (bif (inR (offs iv 0) l2.length) then ((yo (yh.mk (Ev.Worker (l2.getD (offs k 0).toNat dEv)) (yc.mk (Ev.CKind (l2.getD (offs k 0).toNat dEv)) (Ev.CAddr (l2.getD (offs k 0).toNat dEv)) (Ev.CSize (l2.getD (offs k 0).toNat dEv)) (Ev.CAlign (l2.getD (offs k 0).toNat dEv)) (Ev.CValue (l2.getD (offs k 0).toNat dEv))) (T_api_Reply.mk (Ev.RErr (l2.getD (offs k 0).toNat dEv)) (Ev.RAddr (l2.getD (offs k 0).toNat dEv)) (Ev.RSize (l2.getD (offs k 0).toNat dEv)) (Ev.RValue (l2.getD (offs k 0).toNat dEv)) (ya.mk (Ev.SBlocks (l2.getD (offs k 0).toNat dEv)) (Ev.SAsked (l2.getD (offs k 0).toNat dEv)) (Ev.SWords (l2.getD (offs k 0).toNat dEv)) (Ev.SKept (l2.getD (offs k 0).toNat dEv)) (Ev.SOpen (l2.getD (offs k 0).toNat dEv)) (Ev.SMapped (l2.getD (offs k 0).toNat dEv)) (Ev.SUsed (l2.getD (offs k 0).toNat dEv)))) (Ev.Begin (l2.getD (offs k 0).toNat dEv)) (Ev.End (l2.getD (offs k 0).toNat dEv)) (Ev.Stamp (l2.getD (offs k 0).toNat dEv)) (Ev.Wrote (l2.getD (offs k 0).toNat dEv)) (Ev.Sure (l2.getD (offs k 0).toNat dEv)) (Ev.Done (l2.getD (offs k 0).toNat dEv))) (yh.mk (Ev.Worker (l2.getD (offs iv 0).toNat dEv)) (yc.mk (Ev.CKind (l2.getD (offs iv 0).toNat dEv)) (Ev.CAddr (l2.getD (offs iv 0).toNat dEv)) (Ev.CSize (l2.getD (offs iv 0).toNat dEv)) (Ev.CAlign (l2.getD (offs iv 0).toNat dEv)) (Ev.CValue (l2.getD (offs iv 0).toNat dEv))) (T_api_Reply.mk (Ev.RErr (l2.getD (offs iv 0).toNat dEv)) (Ev.RAddr (l2.getD (offs iv 0).toNat dEv)) (Ev.RSize (l2.getD (offs iv 0).toNat dEv)) (Ev.RValue (l2.getD (offs iv 0).toNat dEv)) (ya.mk (Ev.SBlocks (l2.getD (offs iv 0).toNat dEv)) (Ev.SAsked (l2.getD (offs iv 0).toNat dEv)) (Ev.SWords (l2.getD (offs iv 0).toNat dEv)) (Ev.SKept (l2.getD (offs iv 0).toNat dEv)) (Ev.SOpen (l2.getD (offs iv 0).toNat dEv)) (Ev.SMapped (l2.getD (offs iv 0).toNat dEv)) (Ev.SUsed (l2.getD (offs iv 0).toNat dEv)))) (Ev.Begin (l2.getD (offs iv 0).toNat dEv)) (Ev.End (l2.getD (offs iv 0).toNat dEv)) (Ev.Stamp (l2.getD (offs iv 0).toNat dEv)) (Ev.Wrote (l2.getD (offs iv 0).toNat dEv)) (Ev.Sure (l2.getD (offs iv 0).toNat dEv)) (Ev.Done (l2.getD (offs iv 0).toNat dEv)))).bind fun y0 => (bif (!y0) then some (.inr (.inr false)) else some (.inl (IntKind.i64.wrap (k + 1))))) else none) else none) else none) else none) else some (.inl (IntKind.i64.wrap (k + 1)))) else none) else none) else none) else none) else some (.inr (.inl (IntKind.i64.wrap (iv + 1)))))
def y41 (l2 : List Ev) (iv s : Int) : Option (Int ⊕ Bool) :=
  loopO (fun s => y4o l2 iv s) s
def y46 (workers : Int) (l2 : List Ev) (iv : Int) : Option (Int ⊕ Bool) :=
  (bif (decide (iv < (↑l2.length : Int))) then (bif (inR iv l2.length) then (bif (inR (offs iv 0) l2.length) then ((y04 workers (yh.mk (Ev.Worker (l2.getD (offs iv 0).toNat dEv)) (yc.mk (Ev.CKind (l2.getD (offs iv 0).toNat dEv)) (Ev.CAddr (l2.getD (offs iv 0).toNat dEv)) (Ev.CSize (l2.getD (offs iv 0).toNat dEv)) (Ev.CAlign (l2.getD (offs iv 0).toNat dEv)) (Ev.CValue (l2.getD (offs iv 0).toNat dEv))) (T_api_Reply.mk (Ev.RErr (l2.getD (offs iv 0).toNat dEv)) (Ev.RAddr (l2.getD (offs iv 0).toNat dEv)) (Ev.RSize (l2.getD (offs iv 0).toNat dEv)) (Ev.RValue (l2.getD (offs iv 0).toNat dEv)) (ya.mk (Ev.SBlocks (l2.getD (offs iv 0).toNat dEv)) (Ev.SAsked (l2.getD (offs iv 0).toNat dEv)) (Ev.SWords (l2.getD (offs iv 0).toNat dEv)) (Ev.SKept (l2.getD (offs iv 0).toNat dEv)) (Ev.SOpen (l2.getD (offs iv 0).toNat dEv)) (Ev.SMapped (l2.getD (offs iv 0).toNat dEv)) (Ev.SUsed (l2.getD (offs iv 0).toNat dEv)))) (Ev.Begin (l2.getD (offs iv 0).toNat dEv)) (Ev.End (l2.getD (offs iv 0).toNat dEv)) (Ev.Stamp (l2.getD (offs iv 0).toNat dEv)) (Ev.Wrote (l2.getD (offs iv 0).toNat dEv)) (Ev.Sure (l2.getD (offs iv 0).toNat dEv)) (Ev.Done (l2.getD (offs iv 0).toNat dEv)))).bind fun y0 => (bif (!y0) then some (.inr false) else (bif (decide (iv > 0)) then (bif (inR (IntKind.i64.wrap (iv - 1)) l2.length) then (bif (inR (offs (IntKind.i64.wrap (iv - 1)) 0) l2.length) then (bif (inR iv l2.length) then (bif (inR (offs iv 0) l2.length) then (bif (decide (Ev.Begin (l2.getD (Int.toNat (offs (IntKind.i64.wrap (iv - 1)) 0)) dEv) ≥ Ev.Begin (l2.getD (offs iv 0).toNat dEv))) then some (.inr false) else (y41 l2 iv 0)) else none) else none) else none) else none) else (y41 l2 iv 0)))) else none) else none) else some (.inr true))
def y65 (workers : Int) (l2 : List Ev) (s : Int) : Option Bool :=
  loopO (fun s => y46 workers l2 s) s
def y2o (workers : Int) (l2 : List Ev) : Option Bool :=
  (y65 workers l2 0)
def y09 (a b : yh) : Option Bool :=
  (bif (a.Stamp != b.Stamp) then some (decide (a.Stamp < b.Stamp)) else (bif (!a.Wrote == b.Wrote) then some a.Wrote else (bif (!a.Done == b.Done) then some a.Done else (bif a.Done then some (decide (a.End < b.End)) else some false))))
def y4d (l2 : List Ev) (iv : Int) (w : List Int) (k : Int) : Option (Int ⊕ ((Int × (List Int)) ⊕ (List Int))) :=
  (bif (decide (k > 0)) then (bif (inR iv l2.length) then (bif (inR (offs iv 0) l2.length) then (bif (inR (IntKind.i64.wrap (k - 1)) w.length) then (bif (inR (offs (IntKind.i64.wrap (k - 1)) 0) w.length) then (bif (inR (w.getD (Int.toNat (offs (IntKind.i64.wrap (k - 1)) 0)) 0) l2.length) then (bif (inR (offs (w.getD (Int.toNat (offs (IntKind.i64.wrap (k - 1)) 0)) 0) 0) l2.length) then ((y09 (yh.mk (Ev.Worker (l2.getD (offs iv 0).toNat dEv)) (yc.mk (Ev.CKind (l2.getD (offs iv 0).toNat dEv)) (Ev.CAddr (l2.getD (offs iv 0).toNat dEv)) (Ev.CSize (l2.getD (offs iv 0).toNat dEv)) (Ev.CAlign (l2.getD (offs iv 0).toNat dEv)) (Ev.CValue (l2.getD (offs iv 0).toNat dEv))) (T_api_Reply.mk (Ev.RErr (l2.getD (offs iv 0).toNat dEv)) (Ev.RAddr (l2.getD (offs iv 0).toNat dEv)) (Ev.RSize (l2.getD (offs iv 0).toNat dEv)) (Ev.RValue (l2.getD (offs iv 0).toNat dEv)) (ya.mk (Ev.SBlocks (l2.getD (offs iv 0).toNat dEv)) (Ev.SAsked (l2.getD (offs iv 0).toNat dEv)) (Ev.SWords (l2.getD (offs iv 0).toNat dEv)) (Ev.SKept (l2.getD (offs iv 0).toNat dEv)) (Ev.SOpen (l2.getD (offs iv 0).toNat dEv)) (Ev.SMapped (l2.getD (offs iv 0).toNat dEv)) (Ev.SUsed (l2.getD (offs iv 0).toNat dEv)))) (Ev.Begin (l2.getD (offs iv 0).toNat dEv)) (Ev.End (l2.getD (offs iv 0).toNat dEv)) (Ev.Stamp (l2.getD (offs iv 0).toNat dEv)) (Ev.Wrote (l2.getD (offs iv 0).toNat dEv)) (Ev.Sure (l2.getD (offs iv 0).toNat dEv)) (Ev.Done (l2.getD (offs iv 0).toNat dEv))) (yh.mk (Ev.Worker (l2.getD (Int.toNat (offs (w.getD (Int.toNat (offs (IntKind.i64.wrap (k - 1)) 0)) 0) 0)) dEv)) (yc.mk (Ev.CKind (l2.getD (Int.toNat (offs (w.getD (Int.toNat (offs (IntKind.i64.wrap (k - 1)) 0)) 0) 0)) dEv)) (Ev.CAddr (l2.getD (Int.toNat (offs (w.getD (Int.toNat (offs (IntKind.i64.wrap (k - 1)) 0)) 0) 0)) dEv)) (Ev.CSize (l2.getD (Int.toNat (offs (w.getD (Int.toNat (offs (IntKind.i64.wrap (k - 1)) 0)) 0) 0)) dEv)) (Ev.CAlign (l2.getD (Int.toNat (offs (w.getD (Int.toNat (offs (IntKind.i64.wrap (k - 1)) 0)) 0) 0)) dEv)) (Ev.CValue (l2.getD (Int.toNat (offs (w.getD (Int.toNat (offs (IntKind.i64.wrap (k - 1)) 0)) 0) 0)) dEv))) (T_api_Reply.mk (Ev.RErr (l2.getD (Int.toNat (offs (w.getD (Int.toNat (offs (IntKind.i64.wrap (k - 1)) 0)) 0) 0)) dEv)) (Ev.RAddr (l2.getD (Int.toNat (offs (w.getD (Int.toNat (offs (IntKind.i64.wrap (k - 1)) 0)) 0) 0)) dEv)) (Ev.RSize (l2.getD (Int.toNat (offs (w.getD (Int.toNat (offs (IntKind.i64.wrap (k - 1)) 0)) 0) 0)) dEv)) (Ev.RValue (l2.getD (Int.toNat (offs (w.getD (Int.toNat (offs (IntKind.i64.wrap (k - 1)) 0)) 0) 0)) dEv)) (ya.mk (Ev.SBlocks (l2.getD (Int.toNat (offs (w.getD (Int.toNat (offs (IntKind.i64.wrap (k - 1)) 0)) 0) 0)) dEv)) (Ev.SAsked (l2.getD (Int.toNat (offs (w.getD (Int.toNat (offs (IntKind.i64.wrap (k - 1)) 0)) 0) 0)) dEv)) (Ev.SWords (l2.getD (Int.toNat (offs (w.getD (Int.toNat (offs (IntKind.i64.wrap (k - 1)) 0)) 0) 0)) dEv)) (Ev.SKept (l2.getD (Int.toNat (offs (w.getD (Int.toNat (offs (IntKind.i64.wrap (k - 1)) 0)) 0) 0)) dEv)) (Ev.SOpen (l2.getD (Int.toNat (offs (w.getD (Int.toNat (offs (IntKind.i64.wrap (k - 1)) 0)) 0) 0)) dEv)) (Ev.SMapped (l2.getD (Int.toNat (offs (w.getD (Int.toNat (offs (IntKind.i64.wrap (k - 1)) 0)) 0) 0)) dEv)) (Ev.SUsed (l2.getD (Int.toNat (offs (w.getD (Int.toNat (offs (IntKind.i64.wrap (k - 1)) 0)) 0) 0)) dEv)))) (Ev.Begin (l2.getD (Int.toNat (offs (w.getD (Int.toNat (offs (IntKind.i64.wrap (k - 1)) 0)) 0) 0)) dEv)) (Ev.End (l2.getD (Int.toNat (offs (w.getD (Int.toNat (offs (IntKind.i64.wrap (k - 1)) 0)) 0) 0)) dEv)) (Ev.Stamp (l2.getD (Int.toNat (offs (w.getD (Int.toNat (offs (IntKind.i64.wrap (k - 1)) 0)) 0) 0)) dEv)) (Ev.Wrote (l2.getD (Int.toNat (offs (w.getD (Int.toNat (offs (IntKind.i64.wrap (k - 1)) 0)) 0) 0)) dEv)) (Ev.Sure (l2.getD (Int.toNat (offs (w.getD (Int.toNat (offs (IntKind.i64.wrap (k - 1)) 0)) 0) 0)) dEv)) (Ev.Done (l2.getD (Int.toNat (offs (w.getD (Int.toNat (offs (IntKind.i64.wrap (k - 1)) 0)) 0) 0)) dEv)))).bind fun y0 => (bif y0 then some (.inl (IntKind.i64.wrap (k - 1))) else (bif (decide (0 ≤ k ∧ k ≤ (↑w.length : Int))) then (bif (decide (0 + Int.toNat k ≤ w.length)) then (bif (decide (0 + List.length (List.take (Int.toNat k) (List.drop 0 w)) ≤ 1048576)) then (bif (decide (List.length (List.take (Int.toNat k) (List.drop 0 w)) + 1 ≤ 1048576)) then (bif (decide (0 ≤ k ∧ k ≤ (↑w.length : Int))) then (bif (decide (Int.toNat k + (w.length - Int.toNat k) ≤ w.length)) then (bif (decide (List.length (List.take (Int.toNat k) (List.drop 0 w) ++ [iv]) + List.length (List.take (w.length - Int.toNat k) (List.drop (Int.toNat k) w)) ≤ 1048576)) then some (.inr (.inl ((IntKind.i64.wrap (iv + 1)), (List.take (Int.toNat k) (List.drop 0 w) ++ [iv] ++ List.take (w.length - Int.toNat k) (List.drop (Int.toNat k) w))))) else none) else none) else none) else none) else none) else none) else none))) else none) else none) else none) else none) else none) else none) else (bif (decide (0 ≤ k ∧ k ≤ (↑w.length : Int))) then (bif (decide (0 + Int.toNat k ≤ w.length)) then (bif (decide (0 + List.length (List.take (Int.toNat k) (List.drop 0 w)) ≤ 1048576)) then (bif (decide (List.length (List.take (Int.toNat k) (List.drop 0 w)) + 1 ≤ 1048576)) then (bif (decide (0 ≤ k ∧ k ≤ (↑w.length : Int))) then (bif (decide (Int.toNat k + (w.length - Int.toNat k) ≤ w.length)) then (bif (decide (List.length (List.take (Int.toNat k) (List.drop 0 w) ++ [iv]) + List.length (List.take (w.length - Int.toNat k) (List.drop (Int.toNat k) w)) ≤ 1048576)) then some (.inr (.inl ((IntKind.i64.wrap (iv + 1)), (List.take (Int.toNat k) (List.drop 0 w) ++ [iv] ++ List.take (w.length - Int.toNat k) (List.drop (Int.toNat k) w))))) else none) else none) else none) else none) else none) else none) else none))
def yc6 (l2 : List Ev) (iv : Int) (w : List Int) (s : Int) : Option ((Int × (List Int)) ⊕ (List Int)) :=
  loopO (fun s => y4d l2 iv w s) s
def y4m (l2 : List Ev) (iv : Int) (w : List Int) : Option ((Int × (List Int)) ⊕ (List Int)) :=
  (bif (decide (iv < (↑l2.length : Int))) then (bif (inR iv l2.length) then (bif (inR (offs iv 0) l2.length) then (bif (!Ev.Sure (l2.getD (offs iv 0).toNat dEv)) then some (.inl ((IntKind.i64.wrap (iv + 1)), w)) else (yc6 l2 iv w (↑w.length : Int))) else none) else none) else some (.inr w))
def y8t (l2 : List Ev) (s : Int × (List Int)) : Option (List Int) :=
  loopO (fun s => y4m l2 s.1 s.2) s
def y30 (l2 : List Ev) : Option (List Int) :=
  (y8t l2 (0, ([])))
def y45 (l2 : List Ev) (p : Int) (w : List Int) (q : Int) : Option (Int ⊕ (Int ⊕ Int)) :=
  (bif (decide (q < (↑l2.length : Int))) then (bif (inR p w.length) then (bif (inR (offs p 0) w.length) then (bif (w.getD (offs p 0).toNat 0 != 0) then (bif (inR q w.length) then (bif (inR (offs q 0) w.length) then (bif (w.getD (offs q 0).toNat 0 != 0) then (bif (inR p l2.length) then (bif (inR (offs p 0) l2.length) then (bif (inR q l2.length) then (bif (inR (offs q 0) l2.length) then ((yo (yh.mk (Ev.Worker (l2.getD (offs p 0).toNat dEv)) (yc.mk (Ev.CKind (l2.getD (offs p 0).toNat dEv)) (Ev.CAddr (l2.getD (offs p 0).toNat dEv)) (Ev.CSize (l2.getD (offs p 0).toNat dEv)) (Ev.CAlign (l2.getD (offs p 0).toNat dEv)) (Ev.CValue (l2.getD (offs p 0).toNat dEv))) (T_api_Reply.mk (Ev.RErr (l2.getD (offs p 0).toNat dEv)) (Ev.RAddr (l2.getD (offs p 0).toNat dEv)) (Ev.RSize (l2.getD (offs p 0).toNat dEv)) (Ev.RValue (l2.getD (offs p 0).toNat dEv)) (ya.mk (Ev.SBlocks (l2.getD (offs p 0).toNat dEv)) (Ev.SAsked (l2.getD (offs p 0).toNat dEv)) (Ev.SWords (l2.getD (offs p 0).toNat dEv)) (Ev.SKept (l2.getD (offs p 0).toNat dEv)) (Ev.SOpen (l2.getD (offs p 0).toNat dEv)) (Ev.SMapped (l2.getD (offs p 0).toNat dEv)) (Ev.SUsed (l2.getD (offs p 0).toNat dEv)))) (Ev.Begin (l2.getD (offs p 0).toNat dEv)) (Ev.End (l2.getD (offs p 0).toNat dEv)) (Ev.Stamp (l2.getD (offs p 0).toNat dEv)) (Ev.Wrote (l2.getD (offs p 0).toNat dEv)) (Ev.Sure (l2.getD (offs p 0).toNat dEv)) (Ev.Done (l2.getD (offs p 0).toNat dEv))) (yh.mk (Ev.Worker (l2.getD (offs q 0).toNat dEv)) (yc.mk (Ev.CKind (l2.getD (offs q 0).toNat dEv)) (Ev.CAddr (l2.getD (offs q 0).toNat dEv)) (Ev.CSize (l2.getD (offs q 0).toNat dEv)) (Ev.CAlign (l2.getD (offs q 0).toNat dEv)) (Ev.CValue (l2.getD (offs q 0).toNat dEv))) (T_api_Reply.mk (Ev.RErr (l2.getD (offs q 0).toNat dEv)) (Ev.RAddr (l2.getD (offs q 0).toNat dEv)) (Ev.RSize (l2.getD (offs q 0).toNat dEv)) (Ev.RValue (l2.getD (offs q 0).toNat dEv)) (ya.mk (Ev.SBlocks (l2.getD (offs q 0).toNat dEv)) (Ev.SAsked (l2.getD (offs q 0).toNat dEv)) (Ev.SWords (l2.getD (offs q 0).toNat dEv)) (Ev.SKept (l2.getD (offs q 0).toNat dEv)) (Ev.SOpen (l2.getD (offs q 0).toNat dEv)) (Ev.SMapped (l2.getD (offs q 0).toNat dEv)) (Ev.SUsed (l2.getD (offs q 0).toNat dEv)))) (Ev.Begin (l2.getD (offs q 0).toNat dEv)) (Ev.End (l2.getD (offs q 0).toNat dEv)) (Ev.Stamp (l2.getD (offs q 0).toNat dEv)) (Ev.Wrote (l2.getD (offs q 0).toNat dEv)) (Ev.Sure (l2.getD (offs q 0).toNat dEv)) (Ev.Done (l2.getD (offs q 0).toNat dEv)))).bind fun y0 => (bif y0 then (bif (inR q w.length) then (bif (inR (offs q 0) w.length) then (bif (inR p w.length) then (bif (inR (offs p 0) w.length) then (bif (decide (w.getD (offs q 0).toNat 0 < w.getD (offs p 0).toNat 0)) then some (.inr (.inr 17)) else some (.inl (IntKind.i64.wrap (q + 1)))) else none) else none) else none) else none) else some (.inl (IntKind.i64.wrap (q + 1))))) else none) else none) else none) else none) else some (.inl (IntKind.i64.wrap (q + 1)))) else none) else none) else some (.inl (IntKind.i64.wrap (q + 1)))) else none) else none) else some (.inr (.inl (IntKind.i64.wrap (p + 1)))))
def y5j (l2 : List Ev) (p : Int) (w : List Int) (s : Int) : Option (Int ⊕ Int) :=
  loopO (fun s => y45 l2 p w s) s
def y4c (l2 : List Ev) (w : List Int) (p : Int) : Option (Int ⊕ Int) :=
  (bif (decide (p < (↑l2.length : Int))) then (y5j l2 p w 0) else some (.inr 0))
def y59 (l2 : List Ev) (w : List Int) (s : Int) : Option Int :=
  loopO (fun s => y4c l2 w s) s
def y42 (l2 : List Ev) (w : List Int) (p : Int) : Option (Int ⊕ Int) :=
  (bif (decide (p < (↑l2.length : Int))) then (bif (inR p l2.length) then (bif (inR (offs p 0) l2.length) then (bif (Ev.Done (l2.getD (offs p 0).toNat dEv)) then (bif (inR p w.length) then (bif (inR (offs p 0) w.length) then (bif (w.getD (offs p 0).toNat 0 == 0) then some (.inr 2) else some (.inl (IntKind.i64.wrap (p + 1)))) else none) else none) else some (.inl (IntKind.i64.wrap (p + 1)))) else none) else none) else ((y59 l2 w 0).bind fun z => some (.inr z)))
def y5i (l2 : List Ev) (w : List Int) (s : Int) : Option Int :=
  loopO (fun s => y42 l2 w s) s
def y48 (l2 : List Ev) (order : List Int) (iv : Int) (w : List Int) : Option ((Int × (List Int)) ⊕ Int) :=
  (bif (decide (iv < (↑order.length : Int))) then (bif (inR iv order.length) then (bif (inR (offs iv 0) order.length) then (bif (decide (order.getD (offs iv 0).toNat 0 < 0)) then some (.inr 2) else (bif (decide (order.getD (offs iv 0).toNat 0 ≥ (↑l2.length : Int))) then some (.inr 2) else (bif (inR (order.getD (offs iv 0).toNat 0) w.length) then (bif (inR (offs (order.getD (offs iv 0).toNat 0) 0) w.length) then (bif (w.getD (Int.toNat (offs (order.getD (offs iv 0).toNat 0) 0)) 0 != 0) then some (.inr 2) else (bif (inR (order.getD (offs iv 0).toNat 0) l2.length) then (bif (inR (offs (order.getD (offs iv 0).toNat 0) 0) l2.length) then (bif (!Ev.Sure (l2.getD (Int.toNat (offs (order.getD (offs iv 0).toNat 0) 0)) dEv)) then some (.inr 2) else (bif (inR (order.getD (offs iv 0).toNat 0) w.length) then (bif (inR (offs (order.getD (offs iv 0).toNat 0) 0) w.length) then some (.inl ((IntKind.i64.wrap (iv + 1)), (List.set w (Int.toNat (offs (order.getD (offs iv 0).toNat 0) 0)) (IntKind.i64.wrap (iv + 1))))) else none) else none)) else none) else none)) else none) else none))) else none) else none) else ((y5i l2 w 0).bind fun z => some (.inr z)))
def y8i (l2 : List Ev) (order : List Int) (s : Int × (List Int)) : Option Int :=
  loopO (fun s => y48 l2 order s.1 s.2) s
def y37 (l2 : List Ev) (order : List Int) : Option Int :=
  (bif (decide (0 ≤ (↑l2.length : Int) ∧ (↑l2.length : Int) ≤ (↑l2.length : Int) ∧ (↑l2.length : Int) ≤ 1048576)) then (y8i l2 order (0, (List.replicate (Int.toNat (↑l2.length : Int)) (0 : Int)))) else none)
attribute [local irreducible] Loop ex exF contK roundK retK at_ bodyOf mkEnv
theorem yby : SpecOK Try.prog elTT 93 (y7y yo) := by
  refine spec_of_exF (cfg := ybn) (yn rfl rfl rfl) yp (fn := Try.f93) (by kernel_rfl) (by kernel_rfl) (by kernel_rfl) ?_
  intro args H K h
  change y7h yo args H K at h
  unfold y7h at h
  repeat first | (obtain ⟨_, h⟩ := h) | replace h := Des.el h
  subst_vars
  refine Eq.mpr (yjb _ _ K) ?_
  unfold yo at h
  revert h
  exact br_So (fun h => h) (fun h => h)
theorem ygm : SpecOK Try.prog elTT 92 (yao y04) := by
  refine spec_of_exF (cfg := ydz) (yn rfl rfl rfl) yp (fn := Try.f92) (by kernel_rfl) (by kernel_rfl) (by kernel_rfl) ?_
  intro args H K h
  change y8z y04 args H K at h
  unfold y8z at h
  repeat first | (obtain ⟨_, h⟩ := h) | replace h := Des.el h
  subst_vars
  refine Eq.mpr (yek _ _ K) ?_
  unfold y04 at h
  revert h
  exact br_So (fun h => h) (br_So (fun h => h) (br_So (fun h => h) (br_So (br_So (fun h => h) (fun h => h)) (fun h => h))))
theorem lpok_ref25_Right_L2 (workers : Int) (l2 : List Ev) (iv k : Int) (K : V → Heap → Prop) (J1 : Env → Heap → Prop) : So (y41 l2 iv k) (sumK (fun (s_ : Int) => J1 (mkEnv [(0, vi workers), (1, .row 0), (5, vi s_)]) [.row 3 l2 true]) (fun (x : Bool) => K (vb x) [.row 3 l2 true])) → Loop (y0r y04 yo) (⟨66, 1⟩ : Cx) (at_ (bodyOf Try.f64) [1, 0, 1, 0, 0, 1, 0, 0, 1, 1, 0, 0]) (mkEnv [(0, vi workers), (1, .row 0), (5, vi iv), (6, vi k)]) [.row 3 l2 true] (contK (y0r y04 yo) (⟨66, 1⟩ : Cx) (at_ (bodyOf Try.f64) [1, 0, 1, 0, 0]) [1, 0, 0, 1, 1, 0] (roundK (y0r y04 yo) (⟨66, 1⟩ : Cx) (at_ (bodyOf Try.f64) [1, 0, 1, 0, 0]) (contK (y0r y04 yo) (⟨66, 1⟩ : Cx) (bodyOf Try.f64) [1, 0, 1, 0] (retK (y0r y04 yo) Try.f64 1 K)) J1)) := by
  refine loopK_So (fun (s_ : Int) => (mkEnv [(0, vi workers), (1, .row 0), (5, vi iv), (6, vi s_)])) (fun (s_ : Int) => [.row 3 l2 true]) (sumK (fun (s_ : Int) => J1 (mkEnv [(0, vi workers), (1, .row 0), (5, vi s_)]) [.row 3 l2 true]) (fun (x : Bool) => K (vb x) [.row 3 l2 true])) ?_ k
  intro s_ J2 h
  clear k
  revert h; revert s_; intro k h
  refine Eq.mpr (yei y04 yo workers l2 iv k K J1 J2) ?_
  have h : So (y4o l2 iv k) _ := h
  unfold y4o at h
  revert h
  exact br_So (req_So (req_So (req_So (req_So (br_So (req_So (req_So (req_So (req_So (bind_So fun y0 => br_So (fun h => h) (fun h => h)))))) (fun h => h)))))) (fun h => h)
theorem lpok_ref25_Right_L1 (workers : Int) (l2 : List Ev) (iv : Int) (K : V → Heap → Prop) : So (y65 workers l2 iv) (fun (x : Bool) => K (vb x) [.row 3 l2 true]) → Loop (y0r y04 yo) (⟨66, 1⟩ : Cx) (at_ (bodyOf Try.f64) [1, 0, 1, 0, 0]) (mkEnv [(0, vi workers), (1, .row 0), (5, vi iv)]) [.row 3 l2 true] (contK (y0r y04 yo) (⟨66, 1⟩ : Cx) (bodyOf Try.f64) [1, 0, 1, 0] (retK (y0r y04 yo) Try.f64 1 K)) := by
  refine loopK_So (fun (s_ : Int) => (mkEnv [(0, vi workers), (1, .row 0), (5, vi s_)])) (fun (s_ : Int) => [.row 3 l2 true]) (fun (x : Bool) => K (vb x) [.row 3 l2 true]) ?_ iv
  intro s_ J1 h
  clear iv
  revert h; revert s_; intro iv h
  refine Eq.mpr (yh9 y04 yo workers l2 iv K J1) ?_
  have h : So (y46 workers l2 iv) _ := h
  unfold y46 at h
  revert h
  exact br_So (req_So (req_So (bind_So fun y0 => br_So (fun h => h) (br_So (req_So (req_So (req_So (req_So (br_So (fun h => h) (lpok_ref25_Right_L2 workers l2 iv 0 K J1)))))) (lpok_ref25_Right_L2 workers l2 iv 0 K J1))))) (fun h => h)
theorem ygf : SpecOK Try.prog elTT 64 (yce y2o) := by
  refine spec_of_exF (cfg := (y0r y04 yo)) (yn rfl rfl rfl) (yj ygm (yj yby yp)) (fn := Try.f64) (by kernel_rfl) (by kernel_rfl) (by kernel_rfl) ?_
  intro args H K h
  change y8h y2o args H K at h
  unfold y8h at h
  repeat first | (obtain ⟨_, h⟩ := h) | replace h := Des.el h
  subst_vars
  refine Eq.mpr (yhs y04 yo _ _ K) ?_
  unfold y2o at h
  revert h
  exact lpok_ref25_Right_L1 _ _ _ K
theorem yiw : SpecOK Try.prog elTT 94 (yat y09) := by
  refine spec_of_exF (cfg := ydl) (yn rfl rfl rfl) yp (fn := Try.f94) (by kernel_rfl) (by kernel_rfl) (by kernel_rfl) ?_
  intro args H K h
  change y5t y09 args H K at h
  unfold y5t at h
  repeat first | (obtain ⟨_, h⟩ := h) | replace h := Des.el h
  subst_vars
  refine Eq.mpr (yga _ _ K) ?_
  unfold y09 at h
  revert h
  exact br_So (fun h => h) (br_So (fun h => h) (br_So (fun h => h) (br_So (fun h => h) (fun h => h))))
theorem lpok_ref26_Sort_L2 (l2 : List Ev) (iv : Int) (w : List Int) (k : Int) (K : V → Heap → Prop) (J1 : Env → Heap → Prop) : So (yc6 l2 iv w k) (sumK (fun (s_ : Int × (List Int)) => J1 (mkEnv [(0, .row 0), (3, .row 1), (4, vi s_.1)]) [.row 3 l2 true, .row 0 (s_.2 : List Int) false]) (fun (x : (List Int)) => K (.row 1) [.row 3 l2 true, .row 0 x false])) → Loop (y1g y09) (⟨55, 1⟩ : Cx) (at_ (bodyOf Try.f65) [1, 1, 0, 1, 0, 0, 1, 0, 0, 1, 1, 0, 0, 0]) (mkEnv [(0, .row 0), (3, .row 1), (4, vi iv), (5, vi k)]) [.row 3 l2 true, .row 0 w false] (contK (y1g y09) (⟨55, 1⟩ : Cx) (at_ (bodyOf Try.f65) [1, 1, 0, 1, 0, 0]) [1, 0, 0, 1, 1, 0, 0] (roundK (y1g y09) (⟨55, 1⟩ : Cx) (at_ (bodyOf Try.f65) [1, 1, 0, 1, 0, 0]) (contK (y1g y09) (⟨55, 1⟩ : Cx) (bodyOf Try.f65) [1, 1, 0, 1, 0] (retK (y1g y09) Try.f65 1 K)) J1)) := by
  refine loopK_So (fun (s_ : Int) => (mkEnv [(0, .row 0), (3, .row 1), (4, vi iv), (5, vi s_)])) (fun (s_ : Int) => [.row 3 l2 true, .row 0 w false]) (sumK (fun (s_ : Int × (List Int)) => J1 (mkEnv [(0, .row 0), (3, .row 1), (4, vi s_.1)]) [.row 3 l2 true, .row 0 (s_.2 : List Int) false]) (fun (x : (List Int)) => K (.row 1) [.row 3 l2 true, .row 0 x false])) ?_ k
  intro s_ J2 h
  clear k
  revert h; revert s_; intro k h
  refine Eq.mpr (ygn y09 l2 iv w k K J1 J2) ?_
  have h : So (y4d l2 iv w k) _ := h
  unfold y4d at h
  revert h
  exact br_So (req_So (req_So (req_So (req_So (req_So (req_So (bind_So fun y0 => br_So (fun h => h) (req_So (req_So (req_So (req_So (req_So (req_So (req_So (fun h => h))))))))))))))) (req_So (req_So (req_So (req_So (req_So (req_So (req_So (fun h => h))))))))
theorem lpok_ref26_Sort_L1 (l2 : List Ev) (iv : Int) (w : List Int) (K : V → Heap → Prop) : So (y8t l2 (iv, w)) (fun (x : (List Int)) => K (.row 1) [.row 3 l2 true, .row 0 x false]) → Loop (y1g y09) (⟨55, 1⟩ : Cx) (at_ (bodyOf Try.f65) [1, 1, 0, 1, 0, 0]) (mkEnv [(0, .row 0), (3, .row 1), (4, vi iv)]) [.row 3 l2 true, .row 0 w false] (contK (y1g y09) (⟨55, 1⟩ : Cx) (bodyOf Try.f65) [1, 1, 0, 1, 0] (retK (y1g y09) Try.f65 1 K)) := by
  refine loopK_So (fun (s_ : Int × (List Int)) => (mkEnv [(0, .row 0), (3, .row 1), (4, vi s_.1)])) (fun (s_ : Int × (List Int)) => [.row 3 l2 true, .row 0 (s_.2 : List Int) false]) (fun (x : (List Int)) => K (.row 1) [.row 3 l2 true, .row 0 x false]) ?_ (iv, w)
  intro s_ J1 h
  clear iv
  clear w
  obtain ⟨iv, w⟩ := s_
  refine Eq.mpr (yjv y09 l2 iv w K J1) ?_
  have h : So (y4m l2 iv w) _ := h
  unfold y4m at h
  revert h
  exact br_So (req_So (req_So (br_So (fun h => h) (lpok_ref26_Sort_L2 l2 iv w (↑w.length : Int) K J1)))) (fun h => h)
theorem ygk : SpecOK Try.prog elTT 65 (ycn y30) := by
  refine spec_of_exF (cfg := (y1g y09)) (yn rfl rfl rfl) (yj yiw yp) (fn := Try.f65) (by kernel_rfl) (by kernel_rfl) (by kernel_rfl) ?_
  intro args H K h
  change y7m y30 args H K at h
  unfold y7m at h
  repeat first | (obtain ⟨_, h⟩ := h) | replace h := Des.el h
  subst_vars
  refine Eq.mpr (yh0 y09 _ K) ?_
  unfold y30 at h
  revert h
  exact lpok_ref26_Sort_L1 _ _ _ K
theorem lpok_ref26_Check_L4 (l2 : List Ev) (order : List Int) (p : Int) (w : List Int) (q : Int) (K : V → Heap → Prop) (J1 : Env → Heap → Prop) : So (y5j l2 p w q) (sumK (fun (s_ : Int) => J1 (mkEnv [(0, .row 0), (5, .row 2), (9, vi s_)]) [.row 3 l2 true, .row 0 order true, .row 0 w false]) (fun (x : Int) => K (vi x) [.row 3 l2 true, .row 0 order true])) → Loop (y02 yo) (⟨116, 2⟩ : Cx) (at_ (bodyOf Try.f66) [1, 1, 1, 1, 0, 1, 0, 0, 1, 0, 0, 1, 0, 0]) (mkEnv [(0, .row 0), (5, .row 2), (9, vi p), (10, vi q)]) [.row 3 l2 true, .row 0 order true, .row 0 w false] (contK (y02 yo) (⟨116, 2⟩ : Cx) (at_ (bodyOf Try.f66) [1, 1, 1, 1, 0, 1, 0, 0]) [1, 0, 0, 1, 0] (roundK (y02 yo) (⟨116, 2⟩ : Cx) (at_ (bodyOf Try.f66) [1, 1, 1, 1, 0, 1, 0, 0]) (contK (y02 yo) (⟨116, 2⟩ : Cx) (bodyOf Try.f66) [1, 1, 1, 1, 0, 1, 0] (retK (y02 yo) Try.f66 2 K)) J1)) := by
  refine loopK_So (fun (s_ : Int) => (mkEnv [(0, .row 0), (5, .row 2), (9, vi p), (10, vi s_)])) (fun (s_ : Int) => [.row 3 l2 true, .row 0 order true, .row 0 w false]) (sumK (fun (s_ : Int) => J1 (mkEnv [(0, .row 0), (5, .row 2), (9, vi s_)]) [.row 3 l2 true, .row 0 order true, .row 0 w false]) (fun (x : Int) => K (vi x) [.row 3 l2 true, .row 0 order true])) ?_ q
  intro s_ J2 h
  clear q
  revert h; revert s_; intro q h
  refine Eq.mpr (yhj yo l2 order p w q K J1 J2) ?_
  have h : So (y45 l2 p w q) _ := h
  unfold y45 at h
  revert h
  exact br_So (req_So (req_So (br_So (req_So (req_So (br_So (req_So (req_So (req_So (req_So (bind_So fun y0 => br_So (req_So (req_So (req_So (req_So (br_So (fun h => h) (fun h => h)))))) (fun h => h)))))) (fun h => h)))) (fun h => h)))) (fun h => h)
theorem lpok_ref26_Check_L3 (l2 : List Ev) (order : List Int) (p : Int) (w : List Int) (K : V → Heap → Prop) : So (y59 l2 w p) (fun (x : Int) => K (vi x) [.row 3 l2 true, .row 0 order true]) → Loop (y02 yo) (⟨116, 2⟩ : Cx) (at_ (bodyOf Try.f66) [1, 1, 1, 1, 0, 1, 0, 0]) (mkEnv [(0, .row 0), (5, .row 2), (9, vi p)]) [.row 3 l2 true, .row 0 order true, .row 0 w false] (contK (y02 yo) (⟨116, 2⟩ : Cx) (bodyOf Try.f66) [1, 1, 1, 1, 0, 1, 0] (retK (y02 yo) Try.f66 2 K)) := by
  refine loopK_So (fun (s_ : Int) => (mkEnv [(0, .row 0), (5, .row 2), (9, vi s_)])) (fun (s_ : Int) => [.row 3 l2 true, .row 0 order true, .row 0 w false]) (fun (x : Int) => K (vi x) [.row 3 l2 true, .row 0 order true]) ?_ p
  intro s_ J1 h
  clear p
  revert h; revert s_; intro p h
  refine Eq.mpr (yfy yo l2 order p w K J1) ?_
  have h : So (y4c l2 w p) _ := h
  unfold y4c at h
  revert h
  exact br_So (lpok_ref26_Check_L4 l2 order p w 0 K J1) (fun h => h)
theorem lpok_ref26_Check_L2 (l2 : List Ev) (order : List Int) (p : Int) (w : List Int) (K : V → Heap → Prop) : So (y5i l2 w p) (fun (x : Int) => K (vi x) [.row 3 l2 true, .row 0 order true]) → Loop (y02 yo) (⟨116, 2⟩ : Cx) (at_ (bodyOf Try.f66) [1, 1, 1, 0, 1, 0, 0]) (mkEnv [(0, .row 0), (5, .row 2), (8, vi p)]) [.row 3 l2 true, .row 0 order true, .row 0 w false] (contK (y02 yo) (⟨116, 2⟩ : Cx) (bodyOf Try.f66) [1, 1, 1, 0, 1, 0] (retK (y02 yo) Try.f66 2 K)) := by
  refine loopK_So (fun (s_ : Int) => (mkEnv [(0, .row 0), (5, .row 2), (8, vi s_)])) (fun (s_ : Int) => [.row 3 l2 true, .row 0 order true, .row 0 w false]) (fun (x : Int) => K (vi x) [.row 3 l2 true, .row 0 order true]) ?_ p
  intro s_ J1 h
  clear p
  revert h; revert s_; intro p h
  refine Eq.mpr (yhr yo l2 order p w K J1) ?_
  have h : So (y42 l2 w p) _ := h
  unfold y42 at h
  revert h
  exact br_So (req_So (req_So (br_So (req_So (req_So (br_So (fun h => h) (fun h => h)))) (fun h => h)))) (mapK_So (lpok_ref26_Check_L3 l2 order 0 w K))
theorem lpok_ref26_Check_L1 (l2 : List Ev) (order : List Int) (iv : Int) (w : List Int) (K : V → Heap → Prop) : So (y8i l2 order (iv, w)) (fun (x : Int) => K (vi x) [.row 3 l2 true, .row 0 order true]) → Loop (y02 yo) (⟨116, 2⟩ : Cx) (at_ (bodyOf Try.f66) [1, 1, 0, 1, 0, 0]) (mkEnv [(0, .row 0), (1, .row 1), (5, .row 2), (6, vi iv)]) [.row 3 l2 true, .row 0 order true, .row 0 w false] (contK (y02 yo) (⟨116, 2⟩ : Cx) (bodyOf Try.f66) [1, 1, 0, 1, 0] (retK (y02 yo) Try.f66 2 K)) := by
  refine loopK_So (fun (s_ : Int × (List Int)) => (mkEnv [(0, .row 0), (1, .row 1), (5, .row 2), (6, vi s_.1)])) (fun (s_ : Int × (List Int)) => [.row 3 l2 true, .row 0 order true, .row 0 (s_.2 : List Int) false]) (fun (x : Int) => K (vi x) [.row 3 l2 true, .row 0 order true]) ?_ (iv, w)
  intro s_ J1 h
  clear iv
  clear w
  obtain ⟨iv, w⟩ := s_
  refine Eq.mpr (yes yo l2 order iv w K J1) ?_
  have h : So (y48 l2 order iv w) _ := h
  unfold y48 at h
  revert h
  exact br_So (req_So (req_So (br_So (fun h => h) (br_So (fun h => h) (req_So (req_So (br_So (fun h => h) (req_So (req_So (br_So (fun h => h) (req_So (req_So (fun h => h))))))))))))) (mapK_So (lpok_ref26_Check_L2 l2 order 0 w K))
theorem yig : SpecOK Try.prog elTT 66 (yb5 y37) := by
  refine spec_of_exF (cfg := (y02 yo)) (yn rfl rfl rfl) (yj yby yp) (fn := Try.f66) (by kernel_rfl) (by kernel_rfl) (by kernel_rfl) ?_
  intro args H K h
  change y7b y37 args H K at h
  unfold y7b at h
  repeat first | (obtain ⟨_, h⟩ := h) | replace h := Des.el h
  subst_vars
  refine Eq.mpr (yfp yo _ _ K) ?_
  unfold y37 at h
  revert h
  exact req_So (lpok_ref26_Check_L1 _ _ _ _ K)
end Go.Rx
end

section
namespace Go.Rx
open Go.Proofs
open E25 E26
abbrev tE (x : Ev) : yh := ⟨x.Worker, ⟨x.CKind, x.CAddr, x.CSize, x.CAlign, x.CValue⟩, ⟨x.RErr, x.RAddr, x.RSize, x.RValue, ⟨x.SBlocks, x.SAsked, x.SWords, x.SKept, x.SOpen, x.SMapped, x.SUsed⟩⟩, x.Begin, x.End, x.Stamp, x.Wrote, x.Sure, x.Done⟩
theorem one_tE (w : Int) (x : Ev) : y04 w (tE x) = some (oneM w x) := by
  unfold y04 oneM
  simp only
  cases decide (x.Begin < 0) <;> cases decide (x.Worker < 0) <;> cases decide (x.Worker ≥ w) <;> cases x.Done <;> cases x.Sure <;> rfl
theorem rahead_tE (x y : Ev) : yo (tE x) (tE y) = some (aheadM x y) := by
  unfold yo aheadM
  simp only
  cases x.Done <;> rfl
theorem ahead_tE (x y : Ev) : y0b (tE x) (tE y) = some (aheadM x y) := by
  unfold y0b aheadM
  simp only
  cases x.Done <;> rfl
theorem less_tE (x y : Ev) : y0a (tE x) (tE y) = some (lessM x y) := by
  unfold y0a lessM
  simp only
  cases (x.Stamp != y.Stamp) <;> cases (!(x.Wrote == y.Wrote)) <;> cases x.Done <;> cases y.Done <;> rfl
theorem rless_tE (x y : Ev) : y09 (tE x) (tE y) = some (lessM x y) := by
  unfold y09 lessM
  simp only
  cases (x.Stamp != y.Stamp) <;> cases (!(x.Wrote == y.Wrote)) <;> cases x.Done <;> cases y.Done <;> rfl
theorem wrap_prd {k : Nat} (h : k ≤ 4611686018427387904) : IntKind.wrap IntKind.i64 (((k + 1 : Nat) : Int) - 1) = (k : Int) := by rw [wrap_id (by omega) (by omega)]; omega
theorem rRight_eq (w : Int) (l : List Ev) (hl : l.length ≤ 100000) : y2o w l = some (rightB w l) := by
  have inner : ∀ i, i < l.length → oneM w (l.getD i dEv) = true → (i = 0 ∨ (l.getD (i - 1) dEv).Begin < (l.getD i dEv).Begin) → y41 l (i : Int) 0 = some (if E25.okAt w l i = true then .inl ((i + 1 : Nat) : Int) else .inr false) := by
    intro i hi ho hb
    obtain ⟨r, h1, h2⟩ := countS (step := fun s => y4o l (i : Int) s) (fun k => (k : Int)) i (fun k => ∀ j, j < k → (l.getD j dEv).Worker = (l.getD i dEv).Worker → aheadM (l.getD j dEv) (l.getD i dEv) = true) (fun r => r = if E25.okAt w l i = true then .inl ((i + 1 : Nat) : Int) else .inr false)
      (fun k hk hI => by
        have hlt : decide ((k : Int) < (i : Int)) = true := decide_eq_true (by omega)
        simp only [y4o, hlt, cond_true, offs0, inR_nat hi, inR_nat (show k < l.length by omega), Int.toNat_natCast]
        by_cases he : (l.getD k dEv).Worker = (l.getD i dEv).Worker
        · rw [show ((l.getD k dEv).Worker == (l.getD i dEv).Worker) = true by simpa using he, cond_true, rahead_tE, Option.bind_some]
          cases ha : aheadM (l.getD k dEv) (l.getD i dEv) with
          | false =>
            right
            refine ⟨_, rfl, ?_⟩
            rw [if_neg]
            intro h
            rw [(okAt_iff.1 h).2.2 k hk he] at ha
            cases ha
          | true =>
            left
            refine ⟨by rw [Bool.not_true, cond_false, wrap_succ (by omega)], fun j hj hw => ?_⟩
            by_cases e : j = k
            · subst e; exact ha
            · exact hI j (by omega) hw
        · left
          refine ⟨by rw [show ((l.getD k dEv).Worker == (l.getD i dEv).Worker) = false by simpa using he, cond_false, wrap_succ (by omega)], fun j hj hw => ?_⟩
          by_cases e : j = k
          · subst e; exact absurd hw he
          · exact hI j (by omega) hw)
      (fun hI => ⟨_, by
        simp only [y4o]
        rw [decide_eq_false (by omega), cond_false, wrap_succ (by omega)], by
        rw [if_pos (okAt_iff.2 ⟨ho, hb, hI⟩)]⟩)
      (fun j hj => by omega)
    unfold y41
    have h1 : loopO (fun s => y4o l (i : Int) s) 0 = some r := h1
    rw [h1, h2]
  obtain ⟨r, h1, h2⟩ := countS (step := fun s => y46 w l s) (fun i => (i : Int)) l.length (fun i => ∀ j, j < i → E25.okAt w l j = true) (fun r => r = rightB w l)
    (fun i hi hI => by
      have hlt : decide ((i : Int) < (l.length : Int)) = true := decide_eq_true (by omega)
      have bad : ¬ E25.okAt w l i = true → false = rightB w l := fun h => (rightB_false hi h).symm
      have good : E25.okAt w l i = true → ∀ j, j < i + 1 → E25.okAt w l j = true := fun h j hj => by
        by_cases e : j = i
        · subst e; exact h
        · exact hI j (by omega)
      simp only [y46, hlt, cond_true, offs0, inR_nat hi, Int.toNat_natCast, one_tE, Option.bind_some]
      cases ho : oneM w (l.getD i dEv) with
      | false => exact .inr ⟨false, rfl, bad fun h => by rw [(okAt_iff.1 h).1] at ho; cases ho⟩
      | true =>
        simp only [Bool.not_true, cond_false]
        have fin : (i = 0 ∨ (l.getD (i - 1) dEv).Begin < (l.getD i dEv).Begin) → (y41 l (i : Int) 0 = some (.inl ((i + 1 : Nat) : Int)) ∧ ∀ j, j < i + 1 → E25.okAt w l j = true) ∨ ∃ r, y41 l (i : Int) 0 = some (.inr r) ∧ r = rightB w l := fun hb => by
          rw [inner i hi ho hb]
          by_cases hk : E25.okAt w l i = true
          · rw [if_pos hk]; exact .inl ⟨rfl, good hk⟩
          · rw [if_neg hk]; exact .inr ⟨false, rfl, bad hk⟩
        cases i with
        | zero =>
          rw [decide_eq_false (by omega), cond_false]
          exact fin (.inl rfl)
        | succ i =>
          rw [decide_eq_true (by omega), cond_true, wrap_prd (by omega), inR_nat (show i < l.length by omega)]
          simp only [cond_true, Int.toNat_natCast]
          by_cases hb : (l.getD i dEv).Begin ≥ (l.getD (i + 1) dEv).Begin
          · simp only [hb, decide_true, cond_true]
            refine .inr ⟨false, rfl, bad fun h => ?_⟩
            rcases (okAt_iff.1 h).2.1 with e | e
            · omega
            · rw [show i + 1 - 1 = i by omega] at e; omega
          · simp only [hb, decide_false, cond_false]
            exact fin (.inr (by rw [show i + 1 - 1 = i by omega]; omega)))
    (fun hI => ⟨true, by
      simp only [y46]
      rw [decide_eq_false (by omega), cond_false], (rightB_iff.2 hI).symm⟩)
    (fun j hj => by omega)
  unfold y2o y65
  have h1 : loopO (fun s => y46 w l s) 0 = some r := h1
  rw [h1, h2]
theorem out_in {l : List Ev} {i k : Nat} (hk : k < (sortTo l i).length) : 0 ≤ (sortTo l i).getD k 0 ∧ (sortTo l i).getD k 0 < (i : Int) := by
  have hm : (sortTo l i).getD k 0 ∈ sortTo l i := by
    rw [getD_lt hk]; exact List.getElem_mem _
  have := sortTo_mem l i _ hm
  exact ⟨this.1, this.2.1⟩
theorem drop_all {p : Int → Bool} {out : List Int} {k : Nat} (hk : k < out.length) (h : ∀ j ∈ out.drop (k + 1), p j = true) (h0 : p (out.getD k 0) = true) : ∀ j ∈ out.drop k, p j = true := by
  intro j hj
  rw [List.drop_eq_getElem_cons hk] at hj
  rcases List.mem_cons.1 hj with rfl | hj
  · rw [getD_lt hk] at h0; exact h0
  · exact h j hj
theorem sort_eq (l : List Ev) (hl : l.length ≤ 100000) : y2p l = some (sortM l) := by
  have inner : ∀ (i : Nat), i < l.length → ∀ k, k ≤ (sortTo l i).length → (∀ j ∈ (sortTo l i).drop k, pM l i j = true) →
      loopO (fun s => y43 l (i : Int) (tE (l.getD i dEv)) s.1 s.2) ((k : Int), midM i (sortTo l i) k) = some (.inl (((i + 1 : Nat) : Int), insM (pM l i) i (sortTo l i))) := by
    intro i hi k
    have hsl := sortTo_len l i
    induction k with
    | zero =>
      intro hk h
      refine loopO_end ?_
      simp only [y43]
      rw [decide_eq_false (by omega), cond_false, wrap_succ (by omega), insM_at hk h (.inl rfl)]; rfl
    | succ k ih =>
      intro hk h
      have hkl : k < (sortTo l i).length := by omega
      have hin := out_in hkl
      obtain ⟨q, hq⟩ : ∃ q : Nat, (sortTo l i).getD k 0 = (q : Int) := ⟨((sortTo l i).getD k 0).toNat, by omega⟩
      have hml : (midM (i : Int) (sortTo l i) (k + 1)).length = (sortTo l i).length + 1 := mid_len hk
      have hb : (midM (i : Int) (sortTo l i) (k + 1)).getD k 0 = (q : Int) := by rw [mid_below hk (by omega), hq]
      have ha : (midM (i : Int) (sortTo l i) (k + 1)).getD (k + 1) 0 = (i : Int) := mid_at hk
      have hlt : decide (((k + 1 : Nat) : Int) > 0) = true := decide_eq_true (by omega)
      have hp : pM l i (q : Int) = lessM (l.getD i dEv) (l.getD q dEv) := rfl
      have w := wrap_prd (k := k) (by omega)
      cases hless : lessM (l.getD i dEv) (l.getD q dEv) with
      | true =>
        rw [loopO_go (s' := ((k : Int), midM (i : Int) (sortTo l i) k)) ?_]
        · exact ih (by omega) (drop_all hkl h (by rw [hq, hp]; exact hless))
        · simp only [y43, hlt, cond_true, w, offs0, Int.toNat_natCast, hb, less_tE, Option.bind_some, hless, Bool.not_true, cond_false, List.length_set, hml, inR_nat (show k < (sortTo l i).length + 1 by omega), inR_nat (show k + 1 < (sortTo l i).length + 1 by omega), inR_nat (show q < l.length by omega), ha]
          have sw := mid_swap (x := (i : Int)) (out := sortTo l i) (k := k) (by omega)
          rw [hq] at sw
          rw [sw]
      | false =>
        refine loopO_end ?_
        simp only [y43, hlt, cond_true, w, offs0, Int.toNat_natCast, hb, less_tE, Option.bind_some, hless, Bool.not_false, hml, inR_nat (show k < (sortTo l i).length + 1 by omega), inR_nat (show q < l.length by omega)]
        rw [wrap_succ (by omega), insM_at hk h (.inr (by rw [show k + 1 - 1 = k by omega, hq, hp]; exact hless))]; rfl
  obtain ⟨r, h1, h2⟩ := countS (step := fun s => y4l l (l.length : Int) s.1 s.2) (fun i => ((i : Int), sortTo l i)) l.length (fun _ => True) (fun r => r = sortM l)
    (fun i hi _ => by
      left
      refine ⟨?_, trivial⟩
      have hsl := sortTo_len l i
      have hlt : decide ((i : Int) < (l.length : Int)) = true := decide_eq_true (by omega)
      simp only [y4l, hlt, cond_true, offs0, inR_nat hi, Int.toNat_natCast]
      rw [sortTo_succ]
      unfold sortStep
      cases hs : (l.getD i dEv).Sure with
      | false => rw [Bool.not_false, cond_true, wrap_succ (by omega)]
      | true =>
        rw [Bool.not_true, cond_false, decide_eq_true (by omega), cond_true]
        have e : IntKind.wrap IntKind.i64 (((sortTo l i ++ [(i : Int)]).length : Int) - 1) = ((sortTo l i).length : Int) := by
          rw [List.length_append]; exact wrap_prd (by omega)
        rw [e]
        have m : sortTo l i ++ [(i : Int)] = midM (i : Int) (sortTo l i) (sortTo l i).length := by simp [midM]
        rw [m]
        exact inner i hi _ (Nat.le_refl _) (by simp))
    (fun _ => ⟨_, by
      simp only [y4l]
      rw [decide_eq_false (by omega), cond_false]; rfl, rfl⟩)
    trivial
  unfold y2p y9c
  have h1 : loopO (fun s => y4l l (l.length : Int) s.1 s.2) (0, []) = some r := h1
  rw [h1, h2]
end Go.Rx
end

section
namespace Go.Rx
open Go.Proofs
open E26
theorem any_succ {f : Nat → Bool} {i : Nat} : (List.range (i + 1)).any f = ((List.range i).any f || f i) := by simp [List.range_succ]
theorem any_more {f : Nat → Bool} {i n : Nat} (hi : i < n) (h : f i = true) : (List.range n).any f = true := List.any_eq_true.2 ⟨i, List.mem_range.2 hi, h⟩
theorem rsort_eq (l : List Ev) (hl : l.length ≤ 100000) : y30 l = some (sortM l) := by
  have inner : ∀ (i : Nat), i < l.length → ∀ k, k ≤ (sortTo l i).length → (∀ j ∈ (sortTo l i).drop k, pM l i j = true) →
      loopO (fun s => y4d l (i : Int) (sortTo l i) s) (k : Int) = some (.inl (((i + 1 : Nat) : Int), insM (pM l i) i (sortTo l i))) := by
    intro i hi k
    have hsl := sortTo_len l i
    have stop : ∀ k : Nat, k ≤ (sortTo l i).length → (∀ j ∈ (sortTo l i).drop k, pM l i j = true) → (k = 0 ∨ pM l i ((sortTo l i).getD (k - 1) 0) = false) → (bif decide (0 ≤ (k : Int) ∧ (k : Int) ≤ ((sortTo l i).length : Int)) then bif decide (0 + Int.toNat (k : Int) ≤ (sortTo l i).length) then bif decide (0 + (List.take (Int.toNat (k : Int)) (List.drop 0 (sortTo l i))).length ≤ 1048576) then
        bif decide ((List.take (Int.toNat (k : Int)) (List.drop 0 (sortTo l i))).length + 1 ≤ 1048576) then bif decide (0 ≤ (k : Int) ∧ (k : Int) ≤ ((sortTo l i).length : Int)) then bif decide (Int.toNat (k : Int) + ((sortTo l i).length - Int.toNat (k : Int)) ≤ (sortTo l i).length) then
        bif decide ((List.take (Int.toNat (k : Int)) (List.drop 0 (sortTo l i)) ++ [(i : Int)]).length + (List.take ((sortTo l i).length - Int.toNat (k : Int)) (List.drop (Int.toNat (k : Int)) (sortTo l i))).length ≤ 1048576) then
        (some (.inr (.inl (IntKind.wrap IntKind.i64 ((i : Int) + 1), List.take (Int.toNat (k : Int)) (List.drop 0 (sortTo l i)) ++ [(i : Int)] ++ List.take ((sortTo l i).length - Int.toNat (k : Int)) (List.drop (Int.toNat (k : Int)) (sortTo l i))))) : Option (Int ⊕ ((Int × List Int) ⊕ List Int)) ) else none else none else none else none else none else none else none) = some (.inr (.inl (((i + 1 : Nat) : Int), insM (pM l i) i (sortTo l i)))) := by
      intro k hk h h0
      have e1 : List.take ((sortTo l i).length - k) (List.drop k (sortTo l i)) = List.drop k (sortTo l i) := List.take_of_length_le (by simp)
      have e2 : (List.take k (sortTo l i)).length = k := by simp; omega
      have e3 : (List.drop k (sortTo l i)).length = (sortTo l i).length - k := by simp
      rw [List.drop_zero, Int.toNat_natCast, e1, List.length_append, e2, e3, decide_eq_true (by omega), decide_eq_true (by omega), decide_eq_true (by omega), decide_eq_true (by omega), decide_eq_true (by omega), decide_eq_true (by simp; omega), wrap_succ (by omega), insM_at hk h h0]
      simp
    induction k with
    | zero =>
      intro hk h
      refine loopO_end ?_
      simp only [y4d]
      rw [decide_eq_false (by omega), cond_false]
      exact stop 0 hk h (.inl rfl)
    | succ k ih =>
      intro hk h
      have hkl : k < (sortTo l i).length := by omega
      have hin := out_in hkl
      obtain ⟨q, hq⟩ : ∃ q : Nat, (sortTo l i).getD k 0 = (q : Int) := ⟨((sortTo l i).getD k 0).toNat, by omega⟩
      have hlt : decide (((k + 1 : Nat) : Int) > 0) = true := decide_eq_true (by omega)
      have hp : pM l i (q : Int) = lessM (l.getD i dEv) (l.getD q dEv) := rfl
      have w := wrap_prd (k := k) (by omega)
      cases hless : lessM (l.getD i dEv) (l.getD q dEv) with
      | true =>
        rw [loopO_go (s' := (k : Int)) ?_]
        · exact ih (by omega) (drop_all hkl h (by rw [hq, hp]; exact hless))
        · simp only [y4d, hlt, cond_true, w, offs0, Int.toNat_natCast, inR_nat hi, inR_nat hkl, hq, inR_nat (show q < l.length by omega), rless_tE, Option.bind_some, hless]
      | false =>
        refine loopO_end ?_
        have st := stop (k + 1) hk h (.inr (by rw [show k + 1 - 1 = k by omega, hq, hp]; exact hless))
        simp only [y4d, hlt, cond_true, w, offs0, inR_nat hi, inR_nat hkl, rless_tE, Option.bind_some]
        rw [Int.toNat_natCast k, hq, inR_nat (show q < l.length by omega), cond_true, cond_true, Int.toNat_natCast, Int.toNat_natCast, hless, cond_false]
        exact st
  obtain ⟨r, h1, h2⟩ := countS (step := fun s => y4m l s.1 s.2) (fun i => ((i : Int), sortTo l i)) l.length (fun _ => True) (fun r => r = sortM l)
    (fun i hi _ => by
      left
      refine ⟨?_, trivial⟩
      have hsl := sortTo_len l i
      have hlt : decide ((i : Int) < (l.length : Int)) = true := decide_eq_true (by omega)
      simp only [y4m, hlt, cond_true, offs0, inR_nat hi, Int.toNat_natCast]
      rw [sortTo_succ]
      unfold sortStep
      cases hs : (l.getD i dEv).Sure with
      | false => rw [Bool.not_false, cond_true, wrap_succ (by omega)]
      | true =>
        rw [Bool.not_true, cond_false]
        exact inner i hi _ (Nat.le_refl _) (by simp))
    (fun _ => ⟨_, by
      simp only [y4m]
      rw [decide_eq_false (by omega), cond_false]; rfl, rfl⟩)
    trivial
  unfold y30 y8t
  have h1 : loopO (fun s => y4m l s.1 s.2) (0, []) = some r := h1
  rw [h1, h2]
theorem ranks_eq (l : List Ev) (o : List Int) (hl : l.length ≤ 100000) (ho : o.length ≤ 100000) : y08 l o = some (match rankM l o with | none => ([], false) | some r => (r, true)) := by
  have L3 : ∀ r, rankTo l o o.length = some r → y5e l (l.length : Int) r 0 = some (match rankM l o with | none => ([], false) | some r => (r, true)) := by
    intro r hr
    have hlen := rankTo_len hr
    obtain ⟨x, h1, h2⟩ := countS (step := fun s => y44 l (l.length : Int) r s) (fun i => (i : Int)) l.length (fun p => undone l r p = false) (fun x => x = (match rankM l o with | none => ([], false) | some r => (r, true)))
      (fun p hp hI => by
        have hlt : decide ((p : Int) < (l.length : Int)) = true := decide_eq_true (by omega)
        have next : ((l.getD p dEv).Done && r.getD p 0 == -1) = false → undone l r (p + 1) = false := fun h => by rw [undone_succ, hI, h]; rfl
        simp only [y44, hlt, cond_true, offs0, inR_nat hp, Int.toNat_natCast, inR_nat (show p < r.length by omega)]
        cases hd : (l.getD p dEv).Done with
        | false => exact .inl ⟨by rw [cond_false, wrap_succ (by omega)], next (by rw [hd]; rfl)⟩
        | true =>
          rw [cond_true]
          cases he : r.getD p 0 == -1 with
          | false => exact .inl ⟨by rw [cond_false, wrap_succ (by omega)], next (by rw [he]; cases (l.getD p dEv).Done <;> rfl)⟩
          | true =>
            have hu : undone l r l.length = true := undone_more (i := p + 1) (by rw [undone_succ, hd, he]; simp) (by omega)
            have : rankM l o = none := by unfold rankM; rw [hr]; simp only [hu]
            exact .inr ⟨_, rfl, by rw [this]⟩)
      (fun hI => ⟨_, by
        simp only [y44]
        rw [decide_eq_false (by omega), cond_false], by
        have : rankM l o = some r := by unfold rankM; rw [hr]; simp only [hI]
        rw [this]⟩)
      rfl
    unfold y5e
    have h1 : loopO (fun s => y44 l (l.length : Int) r s) 0 = some x := h1
    rw [h1, h2]
  have L2 : y5d l o (o.length : Int) (0, List.replicate l.length (-1)) = some (match rankM l o with | none => ([], false) | some r => (r, true)) := by
    obtain ⟨x, h1, h2⟩ := countS (step := fun s => y4g l o (o.length : Int) s.1 s.2) (fun i => ((i : Int), (rankTo l o i).getD [])) o.length (fun i => ∃ r, rankTo l o i = some r) (fun x => x = (match rankM l o with | none => ([], false) | some r => (r, true)))
      (fun i hi ⟨r, hr⟩ => by
        have hlen := rankTo_len hr
        have hlt : decide ((i : Int) < (o.length : Int)) = true := decide_eq_true (by omega)
        have bad : ¬ E26.okAt l o r i → (([], false) : List Int × Bool) = (match rankM l o with | none => ([], false) | some r => (r, true)) := fun h => by rw [rankM_bad hi hr h]
        rw [hr]
        simp only [Option.getD_some, y4g, hlt, cond_true, offs0, inR_nat hi, Int.toNat_natCast]
        by_cases h0 : o.getD i 0 < 0
        · simp only [h0, decide_true, cond_true]; exact .inr ⟨_, rfl, bad fun h => by have := h.1; omega⟩
        by_cases h1 : o.getD i 0 ≥ (l.length : Int)
        · simp only [h0, h1, decide_true, decide_false, cond_true, cond_false]; exact .inr ⟨_, rfl, bad fun h => by have := h.2.1; omega⟩
        simp only [h0, h1, decide_false, cond_false]
        rw [inR_int (n := r.length) (by omega) (by omega), inR_int (n := l.length) (by omega) (by omega)]
        simp only [cond_true]
        by_cases h2 : r.getD (o.getD i 0).toNat 0 = -1
        · rw [show (r.getD (o.getD i 0).toNat 0 != -1) = false by rw [h2]; rfl, cond_false]
          cases h3 : (l.getD (o.getD i 0).toNat dEv).Sure with
          | false => exact .inr ⟨_, rfl, bad fun h => by rw [h.2.2.2] at h3; cases h3⟩
          | true =>
            have hk := rankTo_ok hr ⟨by omega, by omega, h2, h3⟩
            exact .inl ⟨by rw [hk, Bool.not_true, cond_false, wrap_succ (by omega)]; rfl, _, hk⟩
        · rw [show (r.getD (o.getD i 0).toNat 0 != -1) = true by simpa using h2]
          exact .inr ⟨_, rfl, bad fun h => h2 h.2.2.1⟩)
      (fun ⟨r, hr⟩ => ⟨_, by
        rw [hr]
        simp only [Option.getD_some, y4g]
        rw [decide_eq_false (by omega), cond_false, L3 r hr]; rfl, rfl⟩)
      ⟨_, rfl⟩
    unfold y5d
    have h1 : loopO (fun s => y4g l o (o.length : Int) s.1 s.2) (0, List.replicate l.length (-1)) = some x := h1
    rw [h1, h2]
  obtain ⟨x, h1, h2⟩ := countS (step := fun s => y47 l o (l.length : Int) s.1 s.2) (fun i => ((i : Int), minusTo l.length i)) l.length (fun _ => True) (fun x => x = (match rankM l o with | none => ([], false) | some r => (r, true)))
    (fun i hi _ => by
      left
      refine ⟨?_, trivial⟩
      have hlt : decide ((i : Int) < (l.length : Int)) = true := decide_eq_true (by omega)
      simp only [y47, hlt, cond_true, offs0, Int.toNat_natCast, minus_len (show i ≤ l.length by omega), inR_nat hi]
      rw [wrap_succ (by omega), minus_set hi])
    (fun _ => ⟨_, by
      simp only [y47]
      rw [decide_eq_false (by omega), cond_false, minus_all, L2]; rfl, rfl⟩)
    trivial
  unfold y08 y86
  rw [decide_eq_true (by omega), cond_true, List.length_replicate, Int.toNat_natCast]
  have h1 : loopO (fun s => y47 l o (l.length : Int) s.1 s.2) (0, minusTo l.length 0) = some x := h1
  rw [minus_zero] at h1
  rw [h1, h2]
theorem check_eq (l : List Ev) (o : List Int) (hl : l.length ≤ 100000) (ho : o.length ≤ 100000) : y31 l o = some (checkM l o) := by
  unfold y31 checkM
  rw [ranks_eq l o hl ho, Option.bind_some]
  cases hr : rankM l o with
  | none => rfl
  | some r =>
    obtain ⟨hr1, _⟩ := rankM_some hr
    have hlen := rankTo_len hr1
    have hent := rankTo_ent hr1
    simp only [Bool.not_true, cond_false]
    have inner : ∀ i, i < o.length → y5a l o (i : Int) r (o.getD i 0) 0 i (i : Int) 0 = some (if (List.range i).any (fun j => badAt l o r i j) = true then .inr 17 else .inl ((i + 1 : Nat) : Int)) := by
      intro i hi
      have hei := hent i hi
      obtain ⟨x, h1, h2⟩ := countS (step := fun s => y4e l o (i : Int) r (o.getD i 0) 0 i (i : Int) s) (fun j => (j : Int)) i (fun j => (List.range j).any (fun j => badAt l o r i j) = false) (fun x => x = if (List.range i).any (fun j => badAt l o r i j) = true then .inr 17 else .inl ((i + 1 : Nat) : Int))
        (fun j hj hI => by
          have hej := hent j (by omega)
          have hlt : decide ((j : Int) < (i : Int)) = true := decide_eq_true (by omega)
          have next : badAt l o r i j = false → (List.range (j + 1)).any (fun j => badAt l o r i j) = false := fun h => by rw [any_succ, hI, h]; rfl
          have bad : badAt l o r i j = true → (.inr 17 : Int ⊕ Int) = if (List.range i).any (fun j => badAt l o r i j) = true then .inr 17 else .inl ((i + 1 : Nat) : Int) := fun h => by rw [if_pos (any_more hj h)]
          simp only [y4e, hlt, cond_true, offs0, Nat.zero_add, decide_eq_true (show i ≤ o.length by omega), inR_nat hj, inR_nat (show j < o.length by omega), Int.toNat_natCast, inR_int (n := l.length) hei.1 hei.2, inR_int (n := l.length) hej.1 hej.2, inR_int (n := r.length) (i := o.getD i 0) hei.1 (by omega), inR_int (n := r.length) (i := o.getD j 0) hej.1 (by omega), ahead_tE, Option.bind_some]
          cases ha : E25.aheadM (l.getD (o.getD i 0).toNat dEv) (l.getD (o.getD j 0).toNat dEv) with
          | false => exact .inl ⟨by rw [cond_false, wrap_succ (by omega)], next (by unfold badAt; rw [ha]; rfl)⟩
          | true =>
            rw [cond_true]
            by_cases hd : r.getD (o.getD j 0).toNat 0 < r.getD (o.getD i 0).toNat 0
            · simp only [hd, decide_true, cond_true]; exact .inr ⟨_, rfl, bad (by unfold badAt; rw [ha, decide_eq_true hd]; rfl)⟩
            · simp only [hd, decide_false, cond_false]; exact .inl ⟨by rw [wrap_succ (by omega)], next (by unfold badAt; rw [ha, decide_eq_false hd]; rfl)⟩)
        (fun hI => ⟨_, by
          simp only [y4e]
          rw [decide_eq_false (by omega), cond_false, wrap_succ (by omega)], by rw [hI]; rfl⟩)
        rfl
      unfold y5a
      have h1 : loopO (fun s => y4e l o (i : Int) r (o.getD i 0) 0 i (i : Int) s) 0 = some x := h1
      rw [h1, h2]
    obtain ⟨x, h1, h2⟩ := countS (step := fun s => y4b l o (o.length : Int) r s) (fun i => (i : Int)) o.length (fun i => badTo l o r i = false) (fun x => x = match badTo l o r o.length with | true => 17 | false => 0)
      (fun i hi hI => by
        have hlt : decide ((i : Int) < (o.length : Int)) = true := decide_eq_true (by omega)
        simp only [y4b, hlt, cond_true, offs0, inR_nat hi, Int.toNat_natCast]
        rw [decide_eq_true (by omega), cond_true, inner i hi]
        cases hb : (List.range i).any (fun j => badAt l o r i j) with
        | true =>
          right
          have : badTo l o r o.length = true := any_more (f := fun i => (List.range i).any fun j => badAt l o r i j) hi hb
          exact ⟨17, rfl, by rw [this]⟩
        | false =>
          left
          refine ⟨rfl, ?_⟩
          unfold badTo at hI ⊢
          rw [any_succ, hI, hb]; rfl)
      (fun hI => ⟨0, by
        simp only [y4b]
        rw [decide_eq_false (by omega), cond_false], by rw [hI]⟩)
      rfl
    unfold y8n
    have h1 : loopO (fun s => y4b l o (o.length : Int) r s) 0 = some x := h1
    first | (rw [h1, h2]; done) | (rw [h1, h2]; rfl)
end Go.Rx
end

section
namespace Go.Rx
open Go.Proofs
open E26
theorem refM_bad' {l : List Ev} {o r : List Int} {i : Nat} (hi : i < o.length) (h : refTo l o i = some r) (hk : ¬ okAt0 l o r i) : refCheckM l o = 2 := by
  have h1 := refTo_none (refTo_bad h hk) (o.length - (i + 1))
  have e : i + 1 + (o.length - (i + 1)) = o.length := by omega
  rw [e] at h1
  unfold refCheckM
  rw [h1]
theorem rcheck_eq (l : List Ev) (o : List Int) (hl : l.length ≤ 100000) (ho : o.length ≤ 100000) : y37 l o = some (refCheckM l o) := by
  have L4 : ∀ (r : List Int), r.length = l.length → ∀ p, p < l.length → y5j l (p : Int) r 0 = some (if rbadRow l r p l.length = true then .inr 17 else .inl ((p + 1 : Nat) : Int)) := by
    intro r hlen p hp
    obtain ⟨x, h1, h2⟩ := countS (step := fun s => y45 l (p : Int) r s) (fun q => (q : Int)) l.length (fun q => rbadRow l r p q = false) (fun x => x = if rbadRow l r p l.length = true then .inr 17 else .inl ((p + 1 : Nat) : Int))
      (fun q hq hI => by
        have hlt : decide ((q : Int) < (l.length : Int)) = true := decide_eq_true (by omega)
        have next : rbadAt l r p q = false → rbadRow l r p (q + 1) = false := fun h => by
          unfold rbadRow at hI ⊢
          rw [any_succ, hI, h]; rfl
        have bad : rbadAt l r p q = true → (.inr 17 : Int ⊕ Int) = if rbadRow l r p l.length = true then .inr 17 else .inl ((p + 1 : Nat) : Int) := fun h => by
          have : rbadRow l r p l.length = true := any_more hq h
          rw [if_pos this]
        simp only [y45, hlt, cond_true, offs0, inR_nat (show p < r.length by omega), inR_nat (show q < r.length by omega), inR_nat hp, inR_nat hq, Int.toNat_natCast, rahead_tE, Option.bind_some]
        rw [wrap_succ (by omega)]
        have un : rbadAt l r p q = (r.getD p 0 != 0 && (r.getD q 0 != 0 && (E25.aheadM (l.getD p dEv) (l.getD q dEv) && decide (r.getD q 0 < r.getD p 0)))) := rfl
        cases h0 : r.getD p 0 != 0 with
        | false => exact .inl ⟨rfl, next (by rw [un, h0]; rfl)⟩
        | true =>
          cases h1 : r.getD q 0 != 0 with
          | false => exact .inl ⟨rfl, next (by rw [un, h0, h1]; rfl)⟩
          | true =>
            cases ha : E25.aheadM (l.getD p dEv) (l.getD q dEv) with
            | false => exact .inl ⟨rfl, next (by rw [un, h0, h1, ha]; rfl)⟩
            | true =>
              by_cases hd : r.getD q 0 < r.getD p 0
              · simp only [hd, decide_true, cond_true]; exact .inr ⟨_, rfl, bad (by rw [un, h0, h1, ha, decide_eq_true hd]; rfl)⟩
              · simp only [hd, decide_false, cond_true, cond_false]; exact .inl ⟨by first | rfl | trivial, next (by rw [un, h0, h1, ha, decide_eq_false hd]; rfl)⟩)
      (fun hI => ⟨_, by
        simp only [y45]
        rw [decide_eq_false (by omega), cond_false, wrap_succ (by omega)], by rw [hI]; rfl⟩)
      rfl
    unfold y5j
    have h1 : loopO (fun s => y45 l (p : Int) r s) 0 = some x := h1
    rw [h1, h2]
  have L3 : ∀ (r : List Int), r.length = l.length → y59 l r 0 = some (if rbadTo l r l.length = true then 17 else 0) := by
    intro r hlen
    obtain ⟨x, h1, h2⟩ := countS (step := fun s => y4c l r s) (fun p => (p : Int)) l.length (fun p => rbadTo l r p = false) (fun x => x = if rbadTo l r l.length = true then 17 else 0)
      (fun p hp hI => by
        have hlt : decide ((p : Int) < (l.length : Int)) = true := decide_eq_true (by omega)
        simp only [y4c, hlt, cond_true]
        rw [L4 r hlen p hp]
        cases hb : rbadRow l r p l.length with
        | true =>
          right
          have : rbadTo l r l.length = true := any_more (f := fun i => rbadRow l r i l.length) hp hb
          exact ⟨17, rfl, by rw [if_pos this]⟩
        | false =>
          left
          refine ⟨rfl, ?_⟩
          unfold rbadTo at hI ⊢
          rw [any_succ, hI, hb]; rfl)
      (fun hI => ⟨0, by
        simp only [y4c]
        rw [decide_eq_false (by omega), cond_false], by rw [hI]; rfl⟩)
      rfl
    unfold y59
    have h1 : loopO (fun s => y4c l r s) 0 = some x := h1
    rw [h1, h2]
  have L2 : ∀ (r : List Int), r.length = l.length → y5i l r 0 = some (if undone0 l r l.length = true then 2 else if rbadTo l r l.length = true then 17 else 0) := by
    intro r hlen
    obtain ⟨x, h1, h2⟩ := countS (step := fun s => y42 l r s) (fun p => (p : Int)) l.length (fun p => undone0 l r p = false) (fun x => x = if undone0 l r l.length = true then 2 else if rbadTo l r l.length = true then 17 else 0)
      (fun p hp hI => by
        have hlt : decide ((p : Int) < (l.length : Int)) = true := decide_eq_true (by omega)
        have next : ((l.getD p dEv).Done && r.getD p 0 == 0) = false → undone0 l r (p + 1) = false := fun h => by
          unfold undone0 at hI ⊢
          rw [any_succ, hI, h]; rfl
        simp only [y42, hlt, cond_true, offs0, inR_nat hp, Int.toNat_natCast, inR_nat (show p < r.length by omega)]
        cases hd : (l.getD p dEv).Done with
        | false => exact .inl ⟨by rw [cond_false, wrap_succ (by omega)], next (by rw [hd]; rfl)⟩
        | true =>
          rw [cond_true]
          cases he : r.getD p 0 == 0 with
          | false => exact .inl ⟨by rw [cond_false, wrap_succ (by omega)], next (by rw [he]; cases (l.getD p dEv).Done <;> rfl)⟩
          | true =>
            have : undone0 l r l.length = true := any_more (f := fun p => (l.getD p dEv).Done && r.getD p 0 == 0) hp (by rw [hd, he]; rfl)
            exact .inr ⟨2, rfl, by rw [if_pos this]⟩)
      (fun hI => ⟨_, by
        simp only [y42]
        rw [decide_eq_false (by omega), cond_false, L3 r hlen]; rfl, by rw [hI]; rfl⟩)
      rfl
    unfold y5i
    have h1 : loopO (fun s => y42 l r s) 0 = some x := h1
    rw [h1, h2]
  have rlen : ∀ {i : Nat} {r : List Int}, refTo l o i = some r → r.length = l.length := fun h => refTo_len h
  obtain ⟨x, h1, h2⟩ := countS (step := fun s => y48 l o s.1 s.2) (fun i => ((i : Int), (refTo l o i).getD [])) o.length (fun i => ∃ r, refTo l o i = some r) (fun x => x = refCheckM l o)
    (fun i hi ⟨r, hr⟩ => by
      have hlen := rlen hr
      have hlt : decide ((i : Int) < (o.length : Int)) = true := decide_eq_true (by omega)
      have bad : ¬ okAt0 l o r i → 2 = refCheckM l o := fun h => (refM_bad' hi hr h).symm
      rw [hr]
      simp only [Option.getD_some, y48, hlt, cond_true, offs0, inR_nat hi, Int.toNat_natCast]
      by_cases h0 : o.getD i 0 < 0
      · simp only [h0, decide_true, cond_true]; exact .inr ⟨_, rfl, bad fun h => by have := h.1; omega⟩
      by_cases h1 : o.getD i 0 ≥ (l.length : Int)
      · simp only [h0, h1, decide_true, decide_false, cond_true, cond_false]; exact .inr ⟨_, rfl, bad fun h => by have := h.2.1; omega⟩
      simp only [h0, h1, decide_false, cond_false]
      rw [inR_int (n := r.length) (by omega) (by omega), inR_int (n := l.length) (by omega) (by omega)]
      simp only [cond_true]
      by_cases h2 : r.getD (o.getD i 0).toNat 0 = 0
      · rw [show (r.getD (o.getD i 0).toNat 0 != 0) = false by rw [h2]; rfl, cond_false]
        cases h3 : (l.getD (o.getD i 0).toNat dEv).Sure with
        | false => exact .inr ⟨_, rfl, bad fun h => by rw [h.2.2.2] at h3; cases h3⟩
        | true =>
          have hk := refTo_ok hr ⟨by omega, by omega, h2, h3⟩
          exact .inl ⟨by rw [hk, Bool.not_true, cond_false, wrap_succ (by omega)]; rfl, _, hk⟩
      · rw [show (r.getD (o.getD i 0).toNat 0 != 0) = true by simpa using h2]
        exact .inr ⟨_, rfl, bad fun h => h2 h.2.2.1⟩)
    (fun ⟨r, hr⟩ => ⟨refCheckM l o, by
      rw [hr]
      simp only [Option.getD_some, y48]
      rw [decide_eq_false (by omega), cond_false, L2 r (rlen hr)]
      unfold refCheckM
      rw [hr]
      cases hu : undone0 l r l.length <;> cases hb : rbadTo l r l.length <;> simp [hu, hb], rfl⟩)
    ⟨_, rfl⟩
  unfold y37 y8i
  rw [decide_eq_true (by omega), cond_true, Int.toNat_natCast]
  have h1 : loopO (fun s => y48 l o s.1 s.2) (0, List.replicate l.length 0) = some x := h1
  rw [h1, h2]
end Go.Rx
end

section
namespace Go.Rx
open Go.Proofs
section
variable {L : ye} {its : List (List Int)} {ws : List Int}
theorem Len_eq (its : List (List Int)) : yu its = some (its.length : Int) := rfl
theorem At_eq (A : List (List Int)) (b : List Int) (C : List (List Int)) : y0x (A.length : Int) (A ++ b :: C) = some (kk b, ⟨aa b, ww b⟩, true) := by
  unfold y0x
  rw [decide_eq_false (show ¬ ((A.length : Int) < 0) by omega), cond_false, Len_eq, Option.bind_some, decide_eq_false (show ¬ ((A.length : Int) ≥ ((A ++ b :: C).length : Int)) by simp; omega), cond_false, offs0, mid_in, Int.toNat_natCast, mid_get]
  rfl
def blkA (its : List (List Int)) (a : Int) : Int × Int × Bool := match its.find? (fun x => decide (hasW x a)) with | some b => (kk b, ww b, true) | none => (0, 0, false)
theorem blkA_no {a : Int} (h : ∀ x ∈ its, ¬ hasW x a) : blkA its a = (0, 0, false) := by
  unfold blkA
  rw [List.find?_eq_none.2 (fun x hx => by simpa using h x hx)]
theorem blkA_at {a : Int} {A C : List (List Int)} {b : List Int} (h : ∀ x ∈ A, ¬ hasW x a) (hb : hasW b a) : blkA (A ++ b :: C) a = (kk b, ww b, true) := by
  unfold blkA
  have : (A ++ b :: C).find? (fun x => decide (hasW x a)) = some b := List.find?_eq_some_iff_append.2 ⟨by simpa using hb, A, C, rfl, fun x hx => by simpa using h x hx⟩
  rw [this]
theorem blkA_any (its : List (List Int)) (a : Int) : (blkA its a).2.2 = its.any (fun x => decide (hasW x a)) := by
  unfold blkA
  cases hf : its.find? (fun x => decide (hasW x a)) with
  | none =>
    rw [List.find?_eq_none] at hf
    symm
    rw [List.any_eq_false]
    exact hf
  | some b =>
    symm
    rw [List.any_eq_true]
    exact ⟨b, List.mem_of_find?_eq_some hf, List.find?_some (p := fun x => decide (hasW x a)) hf⟩
theorem Block_eq (h : SOK L its) (hn : its.length ≤ 1048576) {a : Int} (ha : -9223372036854775808 ≤ a ∧ a ≤ 9223372036854775807) : y0k a L ws its = some (blkA its a) := by
  have hbig := h.big
  obtain ⟨r, h1, h2⟩ := scanS (step := fun s => y3t a its s) (l := its) (fun A => (A.length : Int)) (fun A => ∀ x ∈ A, ¬ hasW x a) (fun r => r = blkA its a)
    (fun A b C e hA => by
      obtain ⟨hb, _, hC⟩ := h.parts e
      have hlt : decide ((A.length : Int) < (its.length : Int)) = true := by rw [e]; exact mid_lt A b C
      have hat : y0x (A.length : Int) its = some (kk b, ⟨aa b, ww b⟩, true) := by rw [e]; exact At_eq A b C
      have hl : A.length < its.length := by rw [e]; simp
      have h1 := hb.lo; have h2 := hb.hi; have h3 := hb.one
      by_cases hgt : kk b > a
      · right
        refine ⟨(0, 0, false), ?_, ?_⟩
        · simp only [y3t, Len_eq, Option.bind_some, hlt, cond_true, hat, decide_eq_true hgt]
        · symm
          refine blkA_no fun x hx => ?_
          rw [e] at hx
          rcases List.mem_append.1 hx with hx | hx
          · exact hA x hx
          · rcases List.mem_cons.1 hx with rfl | hx
            · unfold hasW; omega
            · have := hC x hx; unfold hasW; omega
      · by_cases hw : hasW b a
        · right
          refine ⟨(kk b, ww b, true), ?_, ?_⟩
          · unfold hasW at hw
            simp only [y3t, Len_eq, Option.bind_some, hlt, cond_true, hat, decide_eq_false hgt, cond_false]
            rw [wrap_id (by omega) (by omega), decide_eq_true (by omega), cond_true]
          · rw [e, blkA_at hA hw]
        · left
          refine ⟨?_, fun x hx => ?_⟩
          · have hw' : ¬ (a - kk b < ww b) := by unfold hasW at hw; omega
            simp only [y3t, Len_eq, Option.bind_some, hlt, cond_true, hat, decide_eq_false hgt, cond_false]
            rw [wrap_id (x := a - kk b) (by omega) (by omega), decide_eq_false hw', cond_false, wrap_succ (by omega)]
            simp
          · rcases List.mem_append.1 hx with hx | hx
            · exact hA x hx
            · simp at hx; subst hx; exact hw)
    (fun hA => ⟨(0, 0, false), by
      simp only [y3t, Len_eq, Option.bind_some]
      rw [decide_eq_false (by omega), cond_false], (blkA_no hA).symm⟩)
    (by simp)
  unfold y0k y83
  have h1 : loopO (fun s => y3t a its s) 0 = some r := h1
  rw [h1, h2]
def sumw (f : List Int → Int) (l : List (List Int)) : Int := l.foldl (fun s x => IntKind.wrap IntKind.i64 (s + f x)) 0
theorem sumw_snoc (f : List Int → Int) (A : List (List Int)) (b : List Int) : sumw f (A ++ [b]) = IntKind.wrap IntKind.i64 (sumw f A + f b) := by simp [sumw, List.foldl_append]
theorem sumw_perm (f : List Int → Int) {l l' : List (List Int)} (h : l.Perm l') : sumw f l = sumw f l' := by
  unfold sumw
  refine h.foldl_eq' (fun x _ y _ z => ?_) 0
  rw [IntKind.wrap_i64, IntKind.wrap_i64, IntKind.wrap_i64, IntKind.wrap_i64]; omega
theorem total_eq (hn : its.length ≤ 1048575) : y2s ⟨0, 0⟩ its = some ⟨sumw aa its, sumw ww its⟩ := by
  obtain ⟨r, h1, h2⟩ := scanS (step := fun s => y4i its (its.length : Int) s.1 s.2) (l := its) (fun A => ((A.length : Int), (⟨sumw aa A, sumw ww A⟩ : yi))) (fun _ => True) (fun r => r = ⟨sumw aa its, sumw ww its⟩)
    (fun A b C e _ => by
      left
      refine ⟨?_, trivial⟩
      have hlt : decide ((A.length : Int) < (its.length : Int)) = true := by rw [e]; exact mid_lt A b C
      have hl : A.length < its.length := by rw [e]; simp
      have hi : inR (A.length : Int) its.length = true := by rw [e]; exact mid_in A b C
      have hg : its.getD A.length (List.replicate 3 0) = b := by rw [e]; exact mid_get A b C _
      simp only [y4i, hlt, cond_true, offs0, hi, Int.toNat_natCast, hg, y1a]
      rw [Option.bind_some, wrap_succ (by omega), sumw_snoc, sumw_snoc]
      simp only [Bool.not_true, cond_false]
      simp [aa, ww])
    (fun _ => ⟨_, by
      simp only [y4i]
      rw [decide_eq_false (by omega), cond_false], rfl⟩)
    trivial
  unfold y2s y5x
  rw [Len_eq, Option.bind_some]
  have h1 : loopO (fun s => y4i its (its.length : Int) s.1 s.2) (0, ⟨0, 0⟩) = some r := h1
  rw [h1, h2]
def wordA (L : ye) (ws : List Int) (a : Int) : Int := if L.at_10 ≤ a ∧ a < L.at_11 then ws.getD (a - L.at_10).toNat 0 else 0
theorem lPlace_ok (L : ye) (a : Int) : (lPlace L a).2.2 = decide (L.at_10 ≤ a ∧ a < L.at_11) := by
  unfold lPlace; split <;> simp_all
theorem Word_eq (h : LayOK L) (hw : (ws.length : Int) = L.at_11 - L.at_10) (a : Int) : y0i a L ws its = some (wordA L ws a) := by
  have hb := h.big; have h11 := h.a11; have hp := h.pages
  unfold y0i wordA
  rw [Place_eq h, Option.bind_some, lPlace_ok]
  by_cases ha : L.at_10 ≤ a ∧ a < L.at_11
  · rw [decide_eq_true ha, if_pos ha, User_eq, Option.bind_some, offs0, wrap_id (by omega) (by omega), inR_int (by omega) (by omega)]; rfl
  · rw [decide_eq_false ha, if_neg ha]; rfl
def eqR (r : T_api_Reply) (e a s v : Int) : Bool := r.Err == e && (r.Addr == a && (r.Size == s && (r.Value == v && (r.Stats.Blocks == 0 && (r.Stats.Asked == 0 && (r.Stats.Words == 0 && (r.Stats.Kept == 0 && (r.Stats.Open == 0 && (r.Stats.Mapped == 0 && (r.Stats.Used == 0 && Bool.true)))))) && Bool.true))))
def freeB (its : List (List Int)) (a : Int) (n : Nat) : Bool := (List.range n).all fun i => !its.any (fun x => decide (hasW x (a + i)))
theorem freeB_false {a : Int} {n i : Nat} (hi : i < n) (h : its.any (fun x => decide (hasW x (a + i))) = true) : freeB its a n = false := by
  unfold freeB
  rw [List.all_eq_false]
  exact ⟨i, List.mem_range.2 hi, by rw [h]; simp⟩
theorem freeB_true {a : Int} {n : Nat} (h : ∀ i, i < n → its.any (fun x => decide (hasW x (a + (i : Nat)))) = false) : freeB its a n = true := by
  unfold freeB
  rw [List.all_eq_true]
  intro i hi
  rw [h i (List.mem_range.1 hi)]; rfl
theorem freeB_spec {a : Int} {n : Nat} (h : freeB its a n = true) {x : List Int} (hx : x ∈ its) {b : Int} (h1 : a ≤ b) (h2 : b < a + n) : ¬ hasW x b := by
  intro hw
  unfold freeB at h
  rw [List.all_eq_true] at h
  have := h (b - a).toNat (List.mem_range.2 (by omega))
  rw [show a + ((b - a).toNat : Nat) = b by omega] at this
  have h3 : its.any (fun x => decide (hasW x b)) = true := List.any_eq_true.2 ⟨x, hx, by simpa using hw⟩
  rw [h3] at this; cases this
theorem any_perm {p : List Int → Bool} {l l' : List (List Int)} (h : l.Perm l') : l.any p = l'.any p := by
  rw [Bool.eq_iff_iff, List.any_eq_true, List.any_eq_true]
  exact ⟨fun ⟨x, h1, h2⟩ => ⟨x, h.mem_iff.1 h1, h2⟩, fun ⟨x, h1, h2⟩ => ⟨x, h.mem_iff.2 h1, h2⟩⟩
def fitB (L : ye) (its : List (List Int)) (c : yc) (r : T_api_Reply) : Bool :=
  eqR r 0 r.Addr (rndI c.Size (alI c)) 0 && (!(rndI c.Size (alI c) == 0) && (Int.tmod r.Addr (alI c) == 0 && (decide (L.at_10 ≤ r.Addr ∧ r.Addr < L.at_11) && (decide (rndI c.Size (alI c) ≤ L.at_11 - r.Addr) && freeB its r.Addr (rndI c.Size (alI c)).toNat))))
theorem rnd_eq (n al : Int) : yw n al = some (rndI n al) := by
  unfold yw rndI
  by_cases h : n > 1048576
  · rw [decide_eq_true h, if_pos h]; rfl
  · rw [decide_eq_false h, if_neg h, cRound_eq _ _ (by omega)]; rfl
theorem fitsL_eq (h : SOK L its) (hn : its.length ≤ 1048576) {r : T_api_Reply} (ha : L.at_10 ≤ r.Addr ∧ r.Addr < L.at_11) {n : Int} (h0 : 0 ≤ n ∧ n ≤ L.at_11 - r.Addr) : y4z r L ws its n 0 = some (freeB its r.Addr n.toNat) := by
  have hb := h.big
  obtain ⟨x, h1, h2⟩ := countS (step := fun s => y4k r L ws its n s) (fun i => (i : Int)) n.toNat (fun i => ∀ j, j < i → its.any (fun x => decide (hasW x (r.Addr + (j : Nat)))) = false) (fun x => x = freeB its r.Addr n.toNat)
    (fun i hi hI => by
      have hlt : decide ((i : Int) < n) = true := decide_eq_true (by omega)
      have hblk : y0k (IntKind.wrap IntKind.i64 (r.Addr + (i : Int))) L ws its = some (blkA its (r.Addr + (i : Int))) := by
        rw [wrap_id (by omega) (by omega)]; exact Block_eq h hn (by omega)
      simp only [y4k, hlt, cond_true, hblk, Option.bind_some, blkA_any]
      cases hx : its.any (fun x => decide (hasW x (r.Addr + (i : Int)))) with
      | true => exact .inr ⟨false, rfl, (freeB_false hi hx).symm⟩
      | false =>
        left
        refine ⟨by rw [cond_false, wrap_succ (by omega)], fun j hj => ?_⟩
        rcases Nat.lt_or_ge j i with h | h
        · exact hI j h
        · have : j = i := by omega
          subst this; exact hx)
    (fun hI => ⟨true, by
      simp only [y4k]
      rw [decide_eq_false (by omega), cond_false], (freeB_true hI).symm⟩)
    (fun j hj => by omega)
  unfold y4z
  have h1 : loopO (fun s => y4k r L ws its n s) 0 = some x := h1
  rw [h1, h2]
theorem fits_eq (h : SOK L its) (hn : its.length ≤ 1048576) (hw : (ws.length : Int) = L.at_11 - L.at_10) {c : yc} {r : T_api_Reply} (hk : sized c) (hc : askP c) : y1j c r L ws its = some (fitB L its c r) := by
  have hb := h.big
  have hf := hc.2 hk
  have tail : ∀ n al : Int, (0 ≤ n) → (bif (Int.tmod r.Addr al != 0) then some false else (yq L r.Addr).bind fun y1 => bif (!Prod.snd (Prod.snd y1)) then some false else (ym L).bind fun y2 =>
      bif inR (IntKind.wrap IntKind.i64 (r.Addr - y2)) ws.length then (y0j L).bind fun y3 => bif decide (n > IntKind.wrap IntKind.i64 (y3 - r.Addr)) then some false else y4z r L ws its n 0 else none) =
      some (Int.tmod r.Addr al == 0 && (decide (L.at_10 ≤ r.Addr ∧ r.Addr < L.at_11) && (decide (n ≤ L.at_11 - r.Addr) && freeB its r.Addr n.toNat))) := by
    intro n al hn0
    by_cases hm : Int.tmod r.Addr al = 0
    · rw [show (Int.tmod r.Addr al != 0) = false by simp [hm], cond_false, show (Int.tmod r.Addr al == 0) = true by simp [hm], Place_eq h.lay, Option.bind_some, lPlace_ok]
      by_cases ha : L.at_10 ≤ r.Addr ∧ r.Addr < L.at_11
      · rw [decide_eq_true ha, User_eq, Option.bind_some, wrap_id (x := r.Addr - _) (by omega) (by omega), inR_int (by omega) (by omega), Words_eq, Option.bind_some, wrap_id (by omega) (by omega)]
        simp only [Bool.not_true, cond_false, cond_true, Bool.true_and]
        by_cases hx : n ≤ L.at_11 - r.Addr
        · rw [decide_eq_false (by omega), cond_false, decide_eq_true hx, Bool.true_and, fitsL_eq h hn ha ⟨hn0, hx⟩]
        · rw [decide_eq_true (by omega), cond_true, decide_eq_false hx]; rfl
      · rw [decide_eq_false ha]; rfl
    · rw [show (Int.tmod r.Addr al != 0) = true by simp [hm], show (Int.tmod r.Addr al == 0) = false by simp [hm]]; rfl
  have nn : 0 ≤ rndI c.Size (alI c) := by
    unfold rndI; split
    · omega
    · have := roundI_le hf (by omega); omega
  unfold y1j fitB
  by_cases h5 : c.Kind = 5
  · have ea : alI c = c.Align := by unfold alI; rw [if_pos h5]
    rw [ea] at nn hf ⊢
    rw [show (c.Kind == 5) = true by simp [h5], cond_true, rnd_eq, Option.bind_some]
    have t := tail (rndI c.Size c.Align) c.Align nn
    change (bif !(eqR r 0 r.Addr (rndI c.Size c.Align) 0) then _ else _) = _
    cases eqR r 0 r.Addr (rndI c.Size c.Align) 0 with
    | false => rfl
    | true =>
      simp only [Bool.not_true, cond_false, Bool.true_and]
      cases rndI c.Size c.Align == 0 with
      | true => rfl
      | false =>
        have hal : (!c.Align == 0) = true := by
          have := hf.2; unfold powI at this
          have : c.Align ≠ 0 := by omega
          simpa using this
        simp only [cond_false, hal, cond_true, Bool.not_false, Bool.true_and]
        exact t
  · have ea : alI c = 1 := by unfold alI; rw [if_neg h5]
    rw [ea] at nn hf ⊢
    rw [show (c.Kind == 5) = false by simpa using h5, cond_false, rnd_eq, Option.bind_some]
    have t := tail (rndI c.Size 1) 1 nn
    change (bif !(eqR r 0 r.Addr (rndI c.Size 1) 0) then _ else _) = _
    cases eqR r 0 r.Addr (rndI c.Size 1) 0 with
    | false => rfl
    | true =>
      simp only [Bool.not_true, cond_false, Bool.true_and]
      cases rndI c.Size 1 == 0 with
      | true => rfl
      | false =>
        simp only [cond_false, Bool.not_false, Bool.true_and]
        exact t
end
end Go.Rx
end

section
namespace Go.Rx
open Go.Proofs
section
variable {L : ye} {its : List (List Int)} {ws : List Int}
theorem ilt_or (a b : Int) : a < b ∨ b ≤ a := by omega
def zeroW (ws : List Int) (f : Nat) : Nat → List Int
  | 0 => ws
  | n + 1 => (zeroW ws f n).set (f + n) 0
def copyW (ws : List Int) (t f : Nat) : Nat → List Int
  | 0 => ws
  | n + 1 => (copyW ws t f n).set (t + n) ((copyW ws t f n).getD (f + n) 0)
theorem zeroW_len (ws : List Int) (f : Nat) : ∀ n, (zeroW ws f n).length = ws.length
  | 0 => rfl
  | n + 1 => by rw [zeroW, List.length_set, zeroW_len ws f n]
theorem copyW_len (ws : List Int) (t f : Nat) : ∀ n, (copyW ws t f n).length = ws.length
  | 0 => rfl
  | n + 1 => by rw [copyW, List.length_set, copyW_len ws t f n]
theorem SOK.ins (h : SOK L its) {A C : List (List Int)} {x : List Int} (e : splitP (kk x) its A C) (hx : BOK L.at_10 L.at_11 x) (hf : freeB its (kk x) (ww x).toNat = true) : SOK L (A ++ x :: C) ∧ headIs (kk x) C = false := by
  have hone := hx.one
  have hfree : ∀ y ∈ its, kk y + ww y ≤ kk x ∨ kk x + ww x ≤ kk y := by
    intro y hy
    have h1 := (h.all y hy).one
    rcases ilt_or (kk x) (kk y) with hl | hl
    · right
      rcases ilt_or (kk y) (kk x + ww x) with h2 | h2
      · exact absurd (show hasW y (kk y) from ⟨by omega, by omega⟩) (freeB_spec hf hy (b := kk y) (by omega) (by omega))
      · exact h2
    · left
      rcases ilt_or (kk x) (kk y + ww y) with h2 | h2
      · exact absurd (show hasW y (kk x) from ⟨by omega, by omega⟩) (freeB_spec hf hy (b := kk x) (by omega) (by omega))
      · exact h2
  obtain ⟨e1, hA, hC⟩ := e
  have hs := h.srt
  rw [e1, List.pairwise_append] at hs
  refine ⟨⟨h.lay, fun y hy => ?_, ?_⟩, ?_⟩
  · rcases List.mem_append.1 hy with hy | hy
    · exact h.all y (by rw [e1]; simp [hy])
    · rcases List.mem_cons.1 hy with rfl | hy
      · exact hx
      · exact h.all y (by rw [e1]; simp [hy])
  · rw [List.pairwise_append]
    refine ⟨hs.1, List.pairwise_cons.2 ⟨fun y hy => ?_, hs.2.1⟩, fun y hy z hz => ?_⟩
    · have h1 := hC y hy
      rcases hfree y (by rw [e1]; simp [hy]) with h2 | h2
      · have := (h.all y (by rw [e1]; simp [hy])).one; omega
      · exact h2
    · rcases List.mem_cons.1 hz with rfl | hz
      · have h1 := hA y hy
        rcases hfree y (by rw [e1]; simp [hy]) with h2 | h2
        · exact h2
        · omega
      · exact hs.2.2 y hy z hz
  · cases C with
    | nil => rfl
    | cons b C =>
      have hb := hfree b (by rw [e1]; simp)
      have h1 := (h.all b (by rw [e1]; simp)).one
      have : kk b ≠ kk x := by omega
      simpa [headIs] using this
theorem eqR_iff {r : T_api_Reply} {e a s v : Int} (h : eqR r e a s v = true) : r.Err = e ∧ r.Addr = a ∧ r.Size = s ∧ r.Value = v := by
  unfold eqR at h
  simp only [Bool.and_eq_true, beq_iff_eq] at h
  exact ⟨h.1, h.2.1, h.2.2.1, h.2.2.2.1⟩
theorem fit_spec {c : yc} {r : T_api_Reply} (hc : fitOK c.Size (alI c)) (h : fitB L its c r = true) :
    r.Size = rndI c.Size (alI c) ∧ r.Err = 0 ∧ (L.at_10 ≤ r.Addr ∧ r.Addr < L.at_11) ∧ r.Size ≤ L.at_11 - r.Addr ∧ (0 ≤ c.Size ∧ c.Size ≤ r.Size) ∧ 1 ≤ r.Size ∧ freeB its r.Addr r.Size.toNat = true := by
  unfold fitB at h
  simp only [Bool.and_eq_true, decide_eq_true_eq] at h
  obtain ⟨h1, h2, h3, h4, h5, h6⟩ := h
  obtain ⟨e1, _, e3, _⟩ := eqR_iff h1
  rw [← e3] at h2 h5 h6
  have hn0 : rndI c.Size (alI c) ≠ 0 := by rw [← e3]; simpa using h2
  have hle : c.Size ≤ 1048576 := by
    rcases ilt_or 1048576 c.Size with h | h
    · exact absurd (by unfold rndI; rw [if_pos h]) hn0
    · exact h
  have hr := roundI_le hc hle
  have he : rndI c.Size (alI c) = roundI c.Size (alI c) := by unfold rndI; rw [if_neg (by omega)]
  have := hc.1
  exact ⟨e3, e1, h4, h5, ⟨this, by omega⟩, by omega, h6⟩
def putL (its : List (List Int)) (x : List Int) : List (List Int) := its.takeWhile (fun y => decide (kk y < kk x)) ++ x :: its.dropWhile (fun y => decide (kk y < kk x))
theorem split_while {A C : List (List Int)} {k : Int} (h : splitP k its A C) : its.takeWhile (fun y => decide (kk y < k)) = A ∧ its.dropWhile (fun y => decide (kk y < k)) = C := by
  obtain ⟨e, hA, hC⟩ := h
  subst e
  have t : ∀ y ∈ A, decide (kk y < k) = true := fun y hy => decide_eq_true (hA y hy)
  rw [List.takeWhile_append_of_pos t, List.dropWhile_append_of_pos t]
  cases C with
  | nil => simp
  | cons b C =>
    have := hC b (by simp)
    have : decide (kk b < k) = false := decide_eq_false (by omega)
    simp [this]
theorem putL_eq {A C : List (List Int)} {x : List Int} (h : splitP (kk x) its A C) : putL its x = A ++ x :: C := by
  unfold putL
  obtain ⟨h1, h2⟩ := split_while h
  rw [h1, h2]
theorem putL_perm (x : List Int) : (putL its x).Perm (x :: its) := by
  unfold putL
  refine List.perm_middle.trans ?_
  rw [List.takeWhile_append_dropWhile]
theorem putL_len (x : List Int) : (putL its x).length = its.length + 1 := (putL_perm x).length_eq
theorem SOK.put (h : SOK L its) {x : List Int} (hx : BOK L.at_10 L.at_11 x) (hf : freeB its (kk x) (ww x).toNat = true) : SOK L (putL its x) := by
  obtain ⟨A, C, e⟩ := h.split (kk x)
  rw [putL_eq e]
  exact (h.ins e hx hf).1
theorem putNew (h : SOK L its) (hn : its.length + 1 ≤ 1048576) {x : List Int} (hx : BOK L.at_10 L.at_11 x) (hf : freeB its (kk x) (ww x).toNat = true) : yy (kk x) ⟨aa x, ww x⟩ its = some (true, putL its x) := by
  obtain ⟨A, C, e⟩ := h.split (kk x)
  have hh := (h.ins e hx hf).2
  rw [Put_eq _ e hn, putL_eq e, ← hx.eq]
  cases C with
  | nil => rfl
  | cons b C =>
    have : ¬ kk b = kk x := by simpa [headIs] using hh
    simp only [this, if_false]
def freshW (L : ye) (ws : List Int) (c : yc) (r : T_api_Reply) : List Int := if c.Kind = 3 then zeroW ws (r.Addr - L.at_10).toNat r.Size.toNat else ws
theorem freshW_len (c : yc) (r : T_api_Reply) : (freshW L ws c r).length = ws.length := by
  by_cases h3 : c.Kind = 3
  · rw [freshW, if_pos h3]; exact zeroW_len _ _ _
  · rw [freshW, if_neg h3]
theorem freshL_eq (h : LayOK L) (hw : (ws.length : Int) = L.at_11 - L.at_10) {r : T_api_Reply} (ha : L.at_10 ≤ r.Addr ∧ r.Addr < L.at_11) (h0 : 0 ≤ r.Size ∧ r.Size ≤ L.at_11 - r.Addr) (w : List (List Int)) :
    y5f r L w (0, ws) = some (true, w, zeroW ws (r.Addr - L.at_10).toNat r.Size.toNat) := by
  have hb := h.big; have h11 := h.a11; have hp := h.pages
  obtain ⟨x, h1, h2⟩ := countS (step := fun s => y3z r L w s.1 s.2) (fun i => ((i : Int), zeroW ws (r.Addr - L.at_10).toNat i)) r.Size.toNat (fun _ => True) (fun x => x = (true, w, zeroW ws (r.Addr - L.at_10).toNat r.Size.toNat))
    (fun i hi _ => by
      left
      refine ⟨?_, trivial⟩
      have hlt : decide ((i : Int) < r.Size) = true := decide_eq_true (by omega)
      have hok : decide (L.at_10 ≤ r.Addr + (i : Int) ∧ r.Addr + (i : Int) < L.at_11) = true := decide_eq_true (by omega)
      have w1 : IntKind.wrap IntKind.i64 (r.Addr + (i : Int)) = r.Addr + (i : Int) := wrap_id (by omega) (by omega)
      have w2 : IntKind.wrap IntKind.i64 (r.Addr + (i : Int) - L.at_10) = r.Addr + (i : Int) - L.at_10 := wrap_id (by omega) (by omega)
      have hin : inR (r.Addr + (i : Int) - L.at_10) (zeroW ws (r.Addr - L.at_10).toNat i).length = true := by rw [zeroW_len]; exact inR_int (by omega) (by omega)
      simp only [y3z, hlt, cond_true, w1, Place_eq h, Option.bind_some, lPlace_ok, hok, Bool.not_true, cond_false, User_eq, w2, offs0, hin]
      rw [wrap_succ (by omega), show (r.Addr + (i : Int) - L.at_10).toNat = (r.Addr - L.at_10).toNat + i by omega]
      rfl)
    (fun _ => ⟨_, by
      simp only [y3z]
      rw [decide_eq_false (by omega), cond_false], rfl⟩)
    trivial
  unfold y5f
  have h1 : loopO (fun s => y3z r L w s.1 s.2) (0, ws) = some x := h1
  rw [h1, h2]
def freshR (L : ye) (its : List (List Int)) (ws : List Int) (c : yc) (r : T_api_Reply) : Bool × List (List Int) × List Int :=
  bif eqR r 6 0 0 0 then (true, its, ws) else bif !fitB L its c r then (false, its, ws) else (true, putL its [r.Addr, c.Size, r.Size], freshW L ws c r)
theorem newBOK {c : yc} {r : T_api_Reply} (hc : fitOK c.Size (alI c)) (hf : fitB L its c r = true) : BOK L.at_10 L.at_11 [r.Addr, c.Size, r.Size] := by
  obtain ⟨f1, f2, f3, f4, f5, f6, f7⟩ := fit_spec hc hf
  exact ⟨rfl, f3.1, f6, by show r.Addr + r.Size ≤ L.at_11; omega, f5⟩
theorem fresh_eq (h : SOK L its) (hn : its.length + 1 ≤ 1048576) (hw : (ws.length : Int) = L.at_11 - L.at_10) {c : yc} {r : T_api_Reply} (hk : sized c) (hc : askP c) : y01 c r L ws its = some (freshR L its ws c r) := by
  unfold y01 freshR
  change (bif eqR r 6 0 0 0 then _ else _) = _
  cases eqR r 6 0 0 0 with
  | true => rfl
  | false =>
    simp only [cond_false]
    rw [fits_eq h (by omega) hw hk hc, Option.bind_some]
    cases hf : fitB L its c r with
    | false => rfl
    | true =>
      simp only [Bool.not_true, cond_false]
      obtain ⟨f1, f2, f3, f4, f5, f6, f7⟩ := fit_spec (hc.2 hk) hf
      have hx := newBOK (hc.2 hk) hf
      have hp := putNew h hn hx f7
      rw [show yy r.Addr ⟨c.Size, r.Size⟩ its = some (true, putL its [r.Addr, c.Size, r.Size]) from hp, Option.bind_some]
      unfold freshW
      by_cases h3 : c.Kind = 3
      · rw [show (c.Kind == 3) = true by simp [h3], cond_true, if_pos h3, freshL_eq h.lay hw f3 ⟨by omega, f4⟩]
      · rw [show (c.Kind == 3) = false by simpa using h3, cond_false, if_neg h3]
theorem freshR_ok (h : SOK L its) {c : yc} {r : T_api_Reply} (hc : fitOK c.Size (alI c)) : SOK L (freshR L its ws c r).2.1 ∧ (freshR L its ws c r).2.2.length = ws.length ∧ (freshR L its ws c r).2.1.length ≤ its.length + 1 ∧ ((freshR L its ws c r).1 = false → (freshR L its ws c r).2 = (its, ws)) := by
  unfold freshR
  cases eqR r 6 0 0 0 with
  | true => exact ⟨h, rfl, by simp, fun h => by cases h⟩
  | false =>
    cases hf : fitB L its c r with
    | false => exact ⟨h, rfl, by simp, fun _ => rfl⟩
    | true =>
      obtain ⟨f1, f2, f3, f4, f5, f6, f7⟩ := fit_spec hc hf
      exact ⟨h.put (newBOK hc hf) f7, freshW_len _ _, by simp [putL_len], fun h => by cases h⟩
end
end Go.Rx
end

section
namespace Go.Rx
open Go.Proofs
section
variable {L : ye} {its : List (List Int)} {ws : List Int}
theorem eqR_def (r : T_api_Reply) (e a s v : Int) : eqR r e a s v = (r.Err == e && (r.Addr == a && (r.Size == s && (r.Value == v && (r.Stats.Blocks == 0 && (r.Stats.Asked == 0 && (r.Stats.Words == 0 && (r.Stats.Kept == 0 && (r.Stats.Open == 0 && (r.Stats.Mapped == 0 && (r.Stats.Used == 0 && Bool.true)))))) && Bool.true))))) := rfl
def eqS (r : T_api_Reply) : Bool := r.Err == 0 && (r.Addr == 0 && (r.Size == 0 && (r.Value == 0 && (r.Stats.Blocks == r.Stats.Blocks && (r.Stats.Asked == r.Stats.Asked && (r.Stats.Words == r.Stats.Words && (r.Stats.Kept == r.Stats.Kept && (r.Stats.Open == r.Stats.Open && (r.Stats.Mapped == r.Stats.Mapped && (r.Stats.Used == r.Stats.Used && Bool.true)))))) && Bool.true))))
def getK (its : List (List Int)) (k : Int) : Option (List Int) := its.find? (fun x => kk x == k)
def delK (its : List (List Int)) (k : Int) : List (List Int) := its.filter (fun x => !(kk x == k))
def updK (its : List (List Int)) (x : List Int) : List (List Int) := its.map (fun y => bif kk y == kk x then x else y)
theorem map_no {l : List (List Int)} {x : List Int} (h : ∀ y ∈ l, kk y ≠ kk x) : updK l x = l := by
  unfold updK
  conv => rhs; rw [← List.map_id l]
  refine List.map_congr_left fun y hy => ?_
  rw [show (kk y == kk x) = false by simpa using h y hy]; rfl
theorem del_no {l : List (List Int)} {k : Int} (h : ∀ y ∈ l, kk y ≠ k) : delK l k = l := by
  unfold delK
  rw [List.filter_eq_self]
  intro y hy
  simpa using h y hy
theorem get_no {l : List (List Int)} {k : Int} (h : ∀ y ∈ l, kk y ≠ k) : getK l k = none := by
  unfold getK
  rw [List.find?_eq_none]
  intro y hy
  simpa using h y hy
theorem SOK.look (h : SOK L its) (k : Int) : (∃ A b D, its = A ++ b :: D ∧ kk b = k ∧ splitP k its A (b :: D) ∧ getK its k = some b ∧ delK its k = A ++ D ∧ (∀ x : List Int, kk x = k → updK its x = A ++ x :: D)) ∨
    (∃ A C, splitP k its A C ∧ headIs k C = false ∧ (∀ x ∈ its, kk x ≠ k) ∧ getK its k = none ∧ delK its k = its) := by
  obtain ⟨A, C, e⟩ := h.split k
  have hA : ∀ y ∈ A, kk y ≠ k := fun y hy => by have := e.2.1 y hy; omega
  have none_ : headIs k C = false → (∀ x ∈ C, kk x ≠ k) → (∃ A C, splitP k its A C ∧ headIs k C = false ∧ (∀ x ∈ its, kk x ≠ k) ∧ getK its k = none ∧ delK its k = its) := by
    intro h1 h2
    have hall : ∀ x ∈ its, kk x ≠ k := fun x hx => by
      rw [e.1] at hx
      rcases List.mem_append.1 hx with hx | hx
      · exact hA x hx
      · exact h2 x hx
    exact ⟨A, C, e, h1, hall, get_no hall, del_no hall⟩
  cases C with
  | nil => exact .inr (none_ rfl (by simp))
  | cons b D =>
    have kD := (h.keys e.1).2
    by_cases hb : kk b = k
    · left
      have hD : ∀ y ∈ D, kk y ≠ k := fun y hy => by have := kD y hy; omega
      refine ⟨A, b, D, e.1, hb, e, ?_, ?_, fun x hx => ?_⟩
      · unfold getK
        rw [List.find?_eq_some_iff_append]
        exact ⟨by simpa using hb, A, D, e.1, fun y hy => by simpa using hA y hy⟩
      · rw [e.1]
        have h1 := del_no hA
        have h2 := del_no hD
        unfold delK at h1 h2 ⊢
        rw [List.filter_append, h1, List.filter_cons, show (!(kk b == k)) = false by simp [hb], h2]; rfl
      · rw [e.1]
        have h1 : updK A x = A := map_no (fun y hy => by rw [hx]; exact hA y hy)
        have h2 : updK D x = D := map_no (fun y hy => by rw [hx]; exact hD y hy)
        unfold updK at h1 h2 ⊢
        rw [List.map_append, h1, List.map_cons, h2, show (kk b == kk x) = true by simp [hb, hx]]; rfl
    · refine .inr (none_ (by simpa [headIs] using hb) fun x hx => ?_)
      rcases List.mem_cons.1 hx with rfl | hx
      · exact hb
      · have := kD x hx; have := e.2.2 b (by simp); omega
theorem GetK_eq (h : SOK L its) (hn : its.length ≤ 1048576) (k : Int) : y03 k its = some (match getK its k with | none => (⟨0, 0⟩, false) | some b => (⟨aa b, ww b⟩, true)) := by
  rcases h.look k with ⟨A, b, D, e, hb, hs, hg, _, _⟩ | ⟨A, C, hs, hh, _, hg, _⟩
  · rw [Get_eq hs hn, hg]; simp [hb]
  · rw [Get_eq hs hn, hg]
    cases C with
    | nil => rfl
    | cons b C =>
      have : ¬ kk b = k := by simpa [headIs] using hh
      simp [this]
theorem CutK_eq (h : SOK L its) (hn : its.length ≤ 1048576) (k : Int) : ∃ b, y0c k its = some (b, delK its k) := by
  rcases h.look k with ⟨A, b, D, e, hb, hs, hg, hd, _⟩ | ⟨A, C, hs, hh, _, hg, hd⟩
  · rw [Cut_eq hs hn, hd]; simp [hb]
  · rw [Cut_eq hs hn, hd]
    cases C with
    | nil => exact ⟨_, rfl⟩
    | cons b C =>
      have : ¬ kk b = k := by simpa [headIs] using hh
      simp [this]
theorem PutK_eq (h : SOK L its) (hn : its.length + 1 ≤ 1048576) {k : Int} {b : List Int} (hg : getK its k = some b) (s w : Int) : ∃ x, yy k ⟨s, w⟩ its = some (x, updK its [k, s, w]) := by
  rcases h.look k with ⟨A, b, D, e, hb, hs, _, _, hu⟩ | ⟨A, C, hs, hh, _, hg', _⟩
  · rw [Put_eq _ hs hn, hu [k, s, w] rfl]; simp [hb]
  · rw [hg'] at hg; cases hg
theorem getK_mem {k : Int} {b : List Int} (hg : getK its k = some b) : b ∈ its ∧ kk b = k := by
  unfold getK at hg
  exact ⟨List.mem_of_find?_eq_some hg, by simpa using List.find?_some hg⟩
theorem SOK.del (h : SOK L its) (k : Int) : SOK L (delK its k) := by
  refine ⟨h.lay, fun x hx => h.all x (List.mem_filter.1 hx).1, h.srt.filter _⟩
theorem delK_len (its : List (List Int)) (k : Int) : (delK its k).length ≤ its.length := List.length_filter_le _ _
theorem SOK.upd (h : SOK L its) {k s : Int} {b : List Int} (hg : getK its k = some b) (hs : 0 ≤ s ∧ s ≤ ww b) : SOK L (updK its [k, s, ww b]) := by
  rcases h.look k with ⟨A, b', D, e, hb, _, hg', _, hu⟩ | ⟨A, C, _, _, _, hg', _⟩
  · rw [hg'] at hg
    injection hg with hg
    subst hg
    rw [hu [k, s, ww b'] rfl]
    have hB := h.all b' (by rw [e]; simp)
    have hsr := h.srt
    rw [e, List.pairwise_append] at hsr
    refine ⟨h.lay, fun x hx => ?_, ?_⟩
    · rcases List.mem_append.1 hx with hx | hx
      · exact h.all x (by rw [e]; simp [hx])
      · rcases List.mem_cons.1 hx with rfl | hx
        · exact ⟨rfl, by show L.at_10 ≤ k; rw [← hb]; exact hB.lo, hB.one, by show k + ww b' ≤ L.at_11; rw [← hb]; exact hB.hi, hs⟩
        · exact h.all x (by rw [e]; simp [hx])
    · rw [List.pairwise_append]
      obtain ⟨p1, p2⟩ := List.pairwise_cons.1 hsr.2.1
      refine ⟨hsr.1, List.pairwise_cons.2 ⟨fun y hy => ?_, p2⟩, fun y hy z hz => ?_⟩
      · show k + ww b' ≤ kk y; rw [← hb]; exact p1 y hy
      · rcases List.mem_cons.1 hz with rfl | hz
        · show kk y + ww y ≤ k; rw [← hb]; exact hsr.2.2 y hy b' (by simp)
        · exact hsr.2.2 y hy z (by simp [hz])
  · rw [hg'] at hg; cases hg
def againR (L : ye) (its : List (List Int)) (ws : List Int) (c : yc) (r : T_api_Reply) : Bool × List (List Int) × List Int :=
  match getK its c.Addr with
  | none => (eqR r 7 0 0 0, its, ws)
  | some b => bif rndI c.Size 1 == ww b then (bif eqR r 0 c.Addr (ww b) 0 then (true, updK its [c.Addr, c.Size, ww b], ws) else (false, its, ws)) else
    bif !(freshR L its ws c r).1 then (false, (freshR L its ws c r).2) else bif r.Err != 0 then (true, (freshR L its ws c r).2) else
      (true, delK (freshR L its ws c r).2.1 c.Addr, copyW (freshR L its ws c r).2.2 (r.Addr - L.at_10).toNat (c.Addr - L.at_10).toNat (min (aa b) c.Size).toNat)
theorem againL_eq {w : List (List Int)} (h : SOK L w) (hn : w.length ≤ 1048576) (hw : (ws.length : Int) = L.at_11 - L.at_10) {c : yc} {r : T_api_Reply} {n : Int} (h0 : 0 ≤ n) (ht : L.at_10 ≤ r.Addr ∧ r.Addr + n ≤ L.at_11) (hf : L.at_10 ≤ c.Addr ∧ c.Addr + n ≤ L.at_11) :
    y5h c r L n w (0, ws) = some (true, delK w c.Addr, copyW ws (r.Addr - L.at_10).toNat (c.Addr - L.at_10).toNat n.toNat) := by
  have hb := h.big
  obtain ⟨bb, hcut⟩ := CutK_eq h hn c.Addr
  obtain ⟨x, h1, h2⟩ := countS (step := fun s => y4p c r L n w s.1 s.2) (fun i => ((i : Int), copyW ws (r.Addr - L.at_10).toNat (c.Addr - L.at_10).toNat i)) n.toNat (fun _ => True) (fun x => x = (true, delK w c.Addr, copyW ws (r.Addr - L.at_10).toNat (c.Addr - L.at_10).toNat n.toNat))
    (fun i hi _ => by
      left
      refine ⟨?_, trivial⟩
      have hlt : decide ((i : Int) < n) = true := decide_eq_true (by omega)
      have hok : decide (L.at_10 ≤ r.Addr + (i : Int) ∧ r.Addr + (i : Int) < L.at_11) = true := decide_eq_true (by omega)
      have w1 : IntKind.wrap IntKind.i64 (r.Addr + (i : Int)) = r.Addr + (i : Int) := wrap_id (by omega) (by omega)
      have w2 : IntKind.wrap IntKind.i64 (r.Addr + (i : Int) - L.at_10) = r.Addr + (i : Int) - L.at_10 := wrap_id (by omega) (by omega)
      have w3 : IntKind.wrap IntKind.i64 (c.Addr + (i : Int)) = c.Addr + (i : Int) := wrap_id (by omega) (by omega)
      have hin : inR (r.Addr + (i : Int) - L.at_10) (copyW ws (r.Addr - L.at_10).toNat (c.Addr - L.at_10).toNat i).length = true := by rw [copyW_len]; exact inR_int (by omega) (by omega)
      have hwd := Word_eq (its := w) h.lay (ws := copyW ws (r.Addr - L.at_10).toNat (c.Addr - L.at_10).toNat i) (by rw [copyW_len]; exact hw) (c.Addr + (i : Int))
      simp only [y4p, hlt, cond_true, w1, w3, Place_eq h.lay, Option.bind_some, lPlace_ok, hok, Bool.not_true, cond_false, User_eq, w2, offs0, hin, hwd]
      rw [wrap_succ (by omega), show (r.Addr + (i : Int) - L.at_10).toNat = (r.Addr - L.at_10).toNat + i by omega]
      have : wordA L (copyW ws (r.Addr - L.at_10).toNat (c.Addr - L.at_10).toNat i) (c.Addr + (i : Int)) = (copyW ws (r.Addr - L.at_10).toNat (c.Addr - L.at_10).toNat i).getD ((c.Addr - L.at_10).toNat + i) 0 := by
        unfold wordA
        rw [if_pos (by omega), show (c.Addr + (i : Int) - L.at_10).toNat = (c.Addr - L.at_10).toNat + i by omega]
      rw [this]; rfl)
    (fun _ => ⟨_, by
      simp only [y4p]
      rw [decide_eq_false (by omega), cond_false, hcut, Option.bind_some], rfl⟩)
    trivial
  unfold y5h
  have h1 : loopO (fun s => y4p c r L n w s.1 s.2) (0, ws) = some x := h1
  rw [h1, h2]
theorem imin' (x y : Int) : (if x < y then x else y) = min y x := by rw [Int.min_def]; split <;> split <;> omega
theorem ptr_eq (r : T_api_Reply) : yx r = some (eqR r 7 0 0 0) := rfl
theorem again_eq (h : SOK L its) (hn : its.length + 1 ≤ 1048576) (hw : (ws.length : Int) = L.at_11 - L.at_10) {c : yc} {r : T_api_Reply} (hk : c.Kind = 4) (hc : askP c) : y1x c r L ws its = some (againR L its ws c r) := by
  have hsz : sized c := .inr (.inr (.inl hk))
  have ea : alI c = 1 := by unfold alI; rw [if_neg (by omega)]
  have hfit := hc.2 hsz
  unfold y1x againR
  rw [GetK_eq h (by omega), Option.bind_some]
  cases hg : getK its c.Addr with
  | none => rfl
  | some b =>
    obtain ⟨hm, hkb⟩ := getK_mem hg
    have hB := h.all b hm
    simp only [Bool.not_true, cond_false]
    rw [rnd_eq, Option.bind_some]
    cases hr : rndI c.Size 1 == ww b with
    | true =>
      simp only [cond_true, ← eqR_def]
      cases heq : eqR r 0 c.Addr (ww b) 0 with
      | false => rfl
      | true =>
        obtain ⟨x, hp⟩ := PutK_eq h hn hg c.Size (ww b)
        simp only [cond_true]
        rw [hp, Option.bind_some]
    | false =>
      simp only [cond_false]
      rw [fresh_eq h hn hw hsz hc, Option.bind_some]
      have hok := freshR_ok (ws := ws) (r := r) h hfit
      cases hf : (freshR L its ws c r).1 with
      | false => rfl
      | true =>
        simp only [Bool.not_true, cond_false]
        by_cases he : r.Err = 0
        · rw [show (r.Err != 0) = false by simp [he], cond_false, cond_false, imin']
          have hfb : fitB L its c r = true := by
            unfold freshR at hf
            have : eqR r 6 0 0 0 = false := by
              cases h6 : eqR r 6 0 0 0 with
              | false => rfl
              | true => have := (eqR_iff h6).1; omega
            rw [this, cond_false] at hf
            cases hfb : fitB L its c r with
            | true => rfl
            | false => rw [hfb] at hf; cases hf
          obtain ⟨f1, f2, f3, f4, f5, f6, f7⟩ := fit_spec hfit hfb
          have h1 := hB.lo; have h2 := hB.hi; have h3 := hB.ask
          exact againL_eq hok.1 (by omega) (by rw [hok.2.1]; exact hw) (by omega) ⟨f3.1, by omega⟩ ⟨by omega, by omega⟩
        · rw [show (r.Err != 0) = true by simpa using he, cond_true, cond_true]
end
end Go.Rx
end

section
namespace Go.Rx
open Go.Proofs
section
variable {L : ye} {its : List (List Int)} {ws : List Int}
def freeR (its : List (List Int)) (c : yc) (r : T_api_Reply) : Bool × List (List Int) :=
  bif (getK its c.Addr).isNone && (c.Addr != 0) then (eqR r 7 0 0 0, its) else bif !eqR r 0 0 0 0 then (false, its) else (true, delK its c.Addr)
theorem free_eq (h : SOK L its) (hn : its.length ≤ 1048576) (c : yc) (r : T_api_Reply) : y1y c r L ws its = some (freeR its c r) := by
  unfold y1y freeR
  obtain ⟨bb, hcut⟩ := CutK_eq h hn c.Addr
  rw [GetK_eq h hn, Option.bind_some]
  simp only [← eqR_def, ptr_eq, Option.bind_some, hcut]
  cases hg : getK its c.Addr with
  | none =>
    simp only [Bool.not_false, cond_true, Option.isNone_none, Bool.true_and]
    cases c.Addr != 0 with
    | true => rfl
    | false => cases eqR r 0 0 0 0 <;> rfl
  | some b =>
    simp only [Bool.not_true, cond_false, Option.isNone_some, Bool.false_and]
    cases eqR r 0 0 0 0 <;> rfl
def usableR (its : List (List Int)) (c : yc) (r : T_api_Reply) : Bool := match getK its c.Addr with | none => eqR r 7 0 0 0 | some b => eqR r 0 0 (ww b) 0
theorem usable_eq (h : SOK L its) (hn : its.length ≤ 1048576) (c : yc) (r : T_api_Reply) : y1w c r L ws its = some (usableR its c r) := by
  unfold y1w usableR
  rw [GetK_eq h hn, Option.bind_some]
  simp only [← eqR_def, ptr_eq, Option.bind_some]
  cases getK its c.Addr <;> rfl
noncomputable def rightB (s : ya) : Bool := (y27 s).getD false
theorem right_c {s : ya} (h : statB s) : y27 s = some (rightB s) ∧ y2g s = some (rightB s) := by
  obtain ⟨b, h1, h2⟩ := Right_eq s h
  unfold rightB
  rw [h1, h2]; exact ⟨rfl, rfl⟩
noncomputable def statsR (L : ye) (its : List (List Int)) (r : T_api_Reply) : Bool :=
  eqS r && (rightB r.Stats && (decide (r.Stats.Mapped ≤ L.c.Pages) && (r.Stats.Blocks == (its.length : Int) && (r.Stats.Asked == sumw aa its && r.Stats.Words == sumw ww its))))
theorem eqS_def (r : T_api_Reply) : eqS r = (r.Err == 0 && (r.Addr == 0 && (r.Size == 0 && (r.Value == 0 && (r.Stats.Blocks == r.Stats.Blocks && (r.Stats.Asked == r.Stats.Asked && (r.Stats.Words == r.Stats.Words && (r.Stats.Kept == r.Stats.Kept && (r.Stats.Open == r.Stats.Open && (r.Stats.Mapped == r.Stats.Mapped && (r.Stats.Used == r.Stats.Used && Bool.true)))))) && Bool.true))))) := rfl
theorem stats_eq (hn : its.length ≤ 1048575) {r : T_api_Reply} (hs : statB r.Stats) : y20 r L ws its = some (statsR L its r) := by
  unfold y20 statsR
  simp only [← eqS_def]
  rw [total_eq hn, Option.bind_some]
  cases eqS r with
  | false => rfl
  | true =>
    simp only [Bool.not_true, cond_false, Bool.true_and]
    rw [(right_c hs).1, Option.bind_some]
    cases rightB r.Stats with
    | false => rfl
    | true =>
      simp only [Bool.not_true, cond_false, Bool.true_and]
      rw [Config_eq, Option.bind_some]
      by_cases hm : r.Stats.Mapped > L.c.Pages
      · rw [decide_eq_true (show r.Stats.Mapped > (cOf L).Pages from hm), cond_true, decide_eq_false (by omega)]; rfl
      · rw [decide_eq_false (show ¬ r.Stats.Mapped > (cOf L).Pages from hm), cond_false, decide_eq_true (by omega), Len_eq, Option.bind_some, Bool.true_and]
        cases r.Stats.Blocks == (its.length : Int) with
        | false => rfl
        | true => cases r.Stats.Asked == sumw aa its <;> rfl
def accessR (L : ye) (its : List (List Int)) (ws : List Int) (c : yc) (r : T_api_Reply) : Bool × List Int :=
  bif !its.any (fun x => decide (hasW x c.Addr)) then (eqR r 7 0 0 0, ws) else bif c.Kind == 11 then (eqR r 0 0 0 (wordA L ws c.Addr), ws) else
    bif !eqR r 0 0 0 0 then (false, ws) else (true, ws.set (c.Addr - L.at_10).toNat c.Value)
theorem access_eq (h : SOK L its) (hn : its.length ≤ 1048576) (hw : (ws.length : Int) = L.at_11 - L.at_10) {c : yc} (ha : -9223372036854775808 ≤ c.Addr ∧ c.Addr ≤ 9223372036854775807) (r : T_api_Reply) : y21 c r L ws its = some (accessR L its ws c r) := by
  have hb := h.big
  unfold y21 accessR
  rw [Block_eq h hn ha, Option.bind_some, blkA_any]
  simp only [← eqR_def, ptr_eq, Option.bind_some]
  cases hx : its.any (fun x => decide (hasW x c.Addr)) with
  | false => rfl
  | true =>
    simp only [Bool.not_true, cond_false]
    rw [Word_eq h.lay hw, Option.bind_some]
    cases c.Kind == 11 with
    | true => simp only [cond_true, eqR_def]
    | false =>
      simp only [cond_false]
      cases eqR r 0 0 0 0 with
      | false => rfl
      | true =>
        obtain ⟨x, hm, hh⟩ := List.any_eq_true.1 hx
        have hh : hasW x c.Addr := by simpa using hh
        have hB := h.all x hm
        have h1 := hB.lo; have h2 := hB.hi
        unfold hasW at hh
        have hok : decide (L.at_10 ≤ c.Addr ∧ c.Addr < L.at_11) = true := decide_eq_true (by omega)
        simp only [Bool.not_true, cond_false]
        rw [Place_eq h.lay, Option.bind_some, lPlace_ok, hok, User_eq, Option.bind_some, wrap_id (by omega) (by omega), offs0, inR_int (by omega) (by omega)]; rfl
noncomputable def stepR (L : ye) (its : List (List Int)) (ws : List Int) (c : yc) (r : T_api_Reply) : Bool × List (List Int) × List Int :=
  bif eqR r 8 0 0 0 then (true, its, ws) else bif askI c != 0 then (eqR r (askI c) 0 0 0, its, ws) else
  if c.Kind = 1 ∨ c.Kind = 3 ∨ c.Kind = 5 then freshR L its ws c r else
  if c.Kind = 4 then (if c.Addr = 0 then freshR L its ws c r else againR L its ws c r) else
  if c.Kind = 2 then ((freeR its c r).1, (freeR its c r).2, ws) else
  if c.Kind = 6 then (usableR its c r, its, ws) else
  if c.Kind = 7 ∨ c.Kind = 9 then (eqR r 0 0 0 0, its, ws) else
  if c.Kind = 8 then (eqR r 0 0 r.Size 0 && (decide (0 ≤ r.Size) && decide (r.Size ≤ L.c.Pages)), its, ws) else
  if c.Kind = 10 then (statsR L its r, its, ws) else ((accessR L its ws c r).1, its, (accessR L its ws c r).2)
structure CRB (c : yc) (r : T_api_Reply) : Prop where
  addr : -9223372036854775808 ≤ c.Addr ∧ c.Addr ≤ 9223372036854775807
  size : c.Size ≤ 9223372036854775807
  stats : statB r.Stats
theorem Step_eq (h : SOK L its) (hn : its.length + 1 ≤ 1048576) (hw : (ws.length : Int) = L.at_11 - L.at_10) {c : yc} {r : T_api_Reply} (hb : CRB c r) : y1c c r L ws its = some (stepR L its ws c r) := by
  unfold y1c stepR
  simp only [← eqR_def]
  cases eqR r 8 0 0 0 with
  | true => rfl
  | false =>
    simp only [cond_false]
    rw [cAsks_eq _ hb.size, Option.bind_some]
    by_cases hp : askP c
    · have ha : askI c = 0 := by unfold askI; rw [if_pos hp]
      simp only [ha, bne_self_eq_false, cond_false]
      have e : ∀ k : Int, c.Kind ≠ k → (c.Kind == k) = false := fun k hk => by simpa using hk
      have e' : ∀ k : Int, c.Kind = k → (c.Kind == k) = true := fun k hk => by simpa using hk
      by_cases h1 : c.Kind = 1 ∨ c.Kind = 3 ∨ c.Kind = 5
      · rw [if_pos h1]
        have hs : sized c := by unfold sized; omega
        rw [fresh_eq h hn hw hs hp]
        rcases h1 with h1 | h1 | h1
        · rw [e' 1 h1]; rfl
        · rw [e 1 (by omega), e' 3 h1]; rfl
        · rw [e 1 (by omega), e 3 (by omega), e' 5 h1]; rfl
      · rw [if_neg h1, e 1 (by omega), e 3 (by omega), e 5 (by omega)]
        simp only [cond_false]
        by_cases h4 : c.Kind = 4
        · rw [if_pos h4, e' 4 h4, cond_true]
          by_cases hz : c.Addr = 0
          · rw [if_pos hz, show (c.Addr == 0) = true by simpa using hz, cond_true, fresh_eq h hn hw (by unfold sized; omega) hp]; rfl
          · rw [if_neg hz, show (c.Addr == 0) = false by simpa using hz, cond_false, again_eq h hn hw h4 hp]; rfl
        · rw [if_neg h4, e 4 h4, cond_false]
          by_cases h2 : c.Kind = 2
          · rw [if_pos h2, e' 2 h2, cond_true, free_eq h (by omega)]; rfl
          · rw [if_neg h2, e 2 h2, cond_false]
            by_cases h6 : c.Kind = 6
            · rw [if_pos h6, e' 6 h6, cond_true, usable_eq h (by omega)]; rfl
            · rw [if_neg h6, e 6 h6, cond_false]
              by_cases h7 : c.Kind = 7 ∨ c.Kind = 9
              · rw [if_pos h7]
                rcases h7 with h7 | h7
                · rw [e' 7 h7]; rfl
                · rw [e 7 (by omega), e' 9 h7]; rfl
              · rw [if_neg h7, e 7 (by omega), e 9 (by omega)]
                simp only [cond_false]
                by_cases h8 : c.Kind = 8
                · rw [if_pos h8, e' 8 h8, cond_true, Config_eq, Option.bind_some]
                  cases eqR r 0 0 r.Size 0 with
                  | false => rfl
                  | true =>
                    by_cases hs : 0 ≤ r.Size
                    · rw [decide_eq_true (show r.Size ≥ 0 from hs)]; rfl
                    · rw [decide_eq_false (show ¬ r.Size ≥ 0 from hs)]; rfl
                · rw [if_neg h8, e 8 h8, cond_false]
                  by_cases h10 : c.Kind = 10
                  · rw [if_pos h10, e' 10 h10, cond_true, stats_eq (by omega) hb.stats]; rfl
                  · rw [if_neg h10, e 10 h10, cond_false, access_eq h (by omega) hw hb.addr]; rfl
    · have ha : askI c = 2 := by unfold askI; rw [if_neg hp]
      rw [ha]; rfl
theorem againR_ok (h : SOK L its) {c : yc} {r : T_api_Reply} (hk : c.Kind = 4) (hc : fitOK c.Size (alI c)) : SOK L (againR L its ws c r).2.1 ∧ (againR L its ws c r).2.2.length = ws.length ∧ (againR L its ws c r).2.1.length ≤ its.length + 1 ∧ ((againR L its ws c r).1 = false → (againR L its ws c r).2 = (its, ws)) := by
  have hf := freshR_ok (ws := ws) (r := r) h hc
  have ea : alI c = 1 := by unfold alI; rw [if_neg (by omega)]
  unfold againR
  cases hg : getK its c.Addr with
  | none => exact ⟨h, rfl, by simp, fun _ => rfl⟩
  | some b =>
    simp only
    cases hr : rndI c.Size 1 == ww b with
    | true =>
      have hr : rndI c.Size 1 = ww b := by simpa using hr
      simp only [cond_true]
      cases eqR r 0 c.Addr (ww b) 0 with
      | true =>
        have hB := h.all b (getK_mem hg).1
        have h1 := hB.one
        have hle : c.Size ≤ 1048576 := by
          rcases ilt_or 1048576 c.Size with h | h
          · unfold rndI at hr; rw [if_pos h] at hr; omega
          · exact h
        rw [ea] at hc
        have h2 := roundI_le hc hle
        unfold rndI at hr
        rw [if_neg (by omega)] at hr
        exact ⟨h.upd hg ⟨hc.1, by omega⟩, rfl, by simp [updK], fun h => by cases h⟩
      | false => exact ⟨h, rfl, by simp, fun _ => rfl⟩
    | false =>
      simp only [cond_false]
      cases hf1 : (freshR L its ws c r).1 with
      | false => exact ⟨hf.1, hf.2.1, hf.2.2.1, fun _ => hf.2.2.2 hf1⟩
      | true =>
        simp only [Bool.not_true, cond_false]
        cases r.Err != 0 with
        | true => exact ⟨hf.1, hf.2.1, hf.2.2.1, fun h => by cases h⟩
        | false => exact ⟨hf.1.del _, by rw [cond_false, copyW_len]; exact hf.2.1, Nat.le_trans (delK_len _ _) hf.2.2.1, fun h => by cases h⟩
theorem stepR_ok (h : SOK L its) {c : yc} {r : T_api_Reply} : SOK L (stepR L its ws c r).2.1 ∧ (stepR L its ws c r).2.2.length = ws.length ∧ (stepR L its ws c r).2.1.length ≤ its.length + 1 ∧ ((stepR L its ws c r).1 = false → (stepR L its ws c r).2 = (its, ws)) := by
  have same : ∀ b : Bool, SOK L (b, its, ws).2.1 ∧ (b, its, ws).2.2.length = ws.length ∧ (b, its, ws).2.1.length ≤ its.length + 1 ∧ ((b, its, ws).1 = false → (b, its, ws).2 = (its, ws)) := fun b => ⟨h, rfl, Nat.le_succ _, fun _ => rfl⟩
  unfold stepR
  cases eqR r 8 0 0 0 with
  | true => exact same _
  | false =>
    simp only [cond_false]
    by_cases hp : askP c
    · have ha : askI c = 0 := by unfold askI; rw [if_pos hp]
      simp only [ha, bne_self_eq_false, cond_false]
      by_cases h1 : c.Kind = 1 ∨ c.Kind = 3 ∨ c.Kind = 5
      · rw [if_pos h1]; exact freshR_ok h (hp.2 (by unfold sized; omega))
      rw [if_neg h1]
      by_cases h4 : c.Kind = 4
      · rw [if_pos h4]
        by_cases hz : c.Addr = 0
        · rw [if_pos hz]; exact freshR_ok h (hp.2 (by unfold sized; omega))
        · rw [if_neg hz]; exact againR_ok h h4 (hp.2 (by unfold sized; omega))
      rw [if_neg h4]
      by_cases h2 : c.Kind = 2
      · rw [if_pos h2]
        unfold freeR
        cases (getK its c.Addr).isNone && (c.Addr != 0) with
        | true => exact same _
        | false =>
          cases eqR r 0 0 0 0 with
          | false => exact same _
          | true => exact ⟨h.del _, rfl, Nat.le_trans (delK_len _ _) (Nat.le_succ _), fun h => by cases h⟩
      rw [if_neg h2]
      by_cases h6 : c.Kind = 6
      · rw [if_pos h6]; exact same _
      rw [if_neg h6]
      by_cases h7 : c.Kind = 7 ∨ c.Kind = 9
      · rw [if_pos h7]; exact same _
      rw [if_neg h7]
      by_cases h8 : c.Kind = 8
      · rw [if_pos h8]; exact same _
      rw [if_neg h8]
      by_cases h10 : c.Kind = 10
      · rw [if_pos h10]; exact same _
      rw [if_neg h10]
      unfold accessR
      cases its.any (fun x => decide (hasW x c.Addr)) with
      | false => exact same _
      | true =>
        cases c.Kind == 11 with
        | true => exact same _
        | false =>
          cases eqR r 0 0 0 0 with
          | false => exact same _
          | true => exact ⟨h, by simp, by simp, fun h => by cases h⟩
    · have ha : askI c = 2 := by unfold askI; rw [if_neg hp]
      rw [ha]; exact same _
end
end Go.Rx
end

section
namespace Go.Rx
open Go.Proofs
theorem wrap_u64' (x : Int) : IntKind.wrap IntKind.u64 x = x % 18446744073709551616 := rfl
theorem within_eq {n low high : Int} (h : 0 ≤ low ∧ low ≤ high ∧ high ≤ 1099511627776) : ∃ x, y0u n low high = some x ∧ low ≤ x ∧ x ≤ high := by
  unfold y0u
  have hu : ∀ x : Int, 0 ≤ x → x < 18446744073709551616 → IntKind.wrap IntKind.u64 x = x := fun x h1 h2 => by
    rw [wrap_u64']; omega
  have hn : ∀ x : Int, 0 ≤ IntKind.wrap IntKind.u64 x := fun x => by
    rw [wrap_u64']; exact Int.emod_nonneg _ (by decide)
  rw [wrap_id (x := high - low) (by omega) (by omega), wrap_id (x := high - low + 1) (by omega) (by omega), hu (high - low + 1) (by omega) (by omega)]
  have e : (!(high - low + 1 == 0)) = true := by simp; omega
  rw [e, cond_true]
  have h0 := hn n
  generalize IntKind.wrap IntKind.u64 n = m at *
  rw [Int.tmod_eq_emod_of_nonneg h0]
  have h1 := Int.emod_nonneg m (b := high - low + 1) (by omega)
  have h2 := Int.emod_lt_of_pos m (b := high - low + 1) (by omega)
  generalize m % (high - low + 1) = k at *
  refine ⟨_, rfl, ?_⟩
  rw [wrap_id (x := k) (by omega) (by omega), wrap_id (by omega) (by omega)]
  omega
theorem Some_eq (c : yb) : ∃ d, y39 c = some d ∧ RightC d := by
  unfold y39
  obtain ⟨a0, e0, h0⟩ := within_eq (n := c.Workers) (low := 1) (high := 64) (by omega)
  obtain ⟨a1, e1, h1⟩ := within_eq (n := c.CPUs) (low := 1) (high := 8) (by omega)
  obtain ⟨a2, e2, h2⟩ := within_eq (n := c.Pages) (low := 1) (high := 256) (by omega)
  obtain ⟨a3, e3, h3⟩ := within_eq (n := c.Stripes) (low := 1) (high := 64) (by omega)
  obtain ⟨a4, e4, h4⟩ := within_eq (n := c.Tries) (low := 0) (high := 16) (by omega)
  obtain ⟨a5, e5, h5⟩ := within_eq (n := c.Wait) (low := 0) (high := 64) (by omega)
  obtain ⟨a6, e6, h6⟩ := within_eq (n := c.Clock) (low := 1) (high := 1099511627776) (by omega)
  obtain ⟨a7, e7, h7⟩ := within_eq (n := c.Private) (low := 1) (high := 8) (by omega)
  obtain ⟨a8, e8, h8⟩ := within_eq (n := c.Cache) (low := 0) (high := 8) (by omega)
  obtain ⟨a9, e9, h9⟩ := within_eq (n := c.Bin) (low := 0) (high := 16) (by omega)
  obtain ⟨a10, e10, h10⟩ := within_eq (n := c.Batch) (low := 1) (high := 8) (by omega)
  rw [e0, e1, e2, e3, e4, e5, e6, e7, e8, e9, e10]
  exact ⟨_, rfl, h0, h1, h2, h3, h4, h5, h6, h7, h8, h9, h10⟩
section
variable {c : yb}
theorem rChunks_eq (h : RightC c) : y35 ⟨c⟩ = some ((c.Pages + 3) / 4) := by
  have := h.pages
  unfold y35
  simp only
  rw [wrap_id (x := c.Pages + 3) (by omega) (by omega), Int.tdiv_eq_ediv_of_nonneg (by omega), wrap_id (by omega) (by omega)]
theorem rtable_eq (h : RightC c) : y2h ⟨c⟩ = some (layC c).at_0 := by
  have := h.stripes
  unfold y2h
  simp only [layC]
  rw [wrap_id (by omega) (by omega)]
theorem rheads_eq (h : RightC c) : y2x ⟨c⟩ = some (layC c).at_6 := by
  have := h.stripes; have := h.pages
  unfold y2x
  rw [rtable_eq h, rChunks_eq h]
  simp only [layC, Option.bind_some]
  simp (disch := omega) only [wrap_id]
theorem rcaches_eq (h : RightC c) : y2n ⟨c⟩ = some (layC c).at_7 := by
  have := h.stripes; have := h.pages
  unfold y2n
  rw [rheads_eq h]
  simp only [layC, Option.bind_some]
  simp (disch := omega) only [wrap_id]
theorem rbins_eq (h : RightC c) : y2m ⟨c⟩ = some (layC c).at_8 := by
  have := h.stripes; have := h.pages; have := h.cpus; have := h.cache
  have hp := prodC h
  unfold y2m
  rw [rcaches_eq h]
  simp only [layC, Option.bind_some]
  have e : 5 * c.CPUs = c.CPUs * 5 := Int.mul_comm _ _
  rw [wrap_id (x := 5 * c.CPUs) (by omega) (by omega), wrap_id (x := c.Cache + 1) (by omega) (by omega), e]
  generalize c.CPUs * 5 * (c.Cache + 1) = q at *
  simp (disch := omega) only [wrap_id]
theorem rlive_eq (h : RightC c) : y2t ⟨c⟩ = some (layC c).at_9 := by
  have := h.stripes; have := h.pages; have := h.bin
  have hp := prodC h
  unfold y2t
  rw [rbins_eq h]
  simp only [layC, Option.bind_some]
  generalize c.CPUs * 5 * (c.Cache + 1) = q at *
  simp (disch := omega) only [wrap_id]
theorem rUser_eq (h : RightC c) : yr ⟨c⟩ = some (layC c).at_10 := by
  have := h.stripes; have := h.pages; have := h.bin
  have hp := prodC h
  unfold yr
  rw [rlive_eq h]
  simp only [layC, Option.bind_some]
  generalize c.CPUs * 5 * (c.Cache + 1) = q at *
  simp (disch := omega) only [wrap_id, Int.tdiv_eq_ediv_of_nonneg, Int.mul_comm 32]
theorem rWords_eq (h : RightC c) : y0m ⟨c⟩ = some (layC c).at_11 := by
  have := h.stripes; have := h.pages; have := h.bin
  have hb := (layC_ok h).big
  unfold y0m
  rw [rUser_eq h]
  have e : (layC c).at_11 = (layC c).at_10 + c.Pages * 32 := rfl
  rw [e]
  generalize (layC c).at_10 = q at *
  simp only [Option.bind_some]
  simp (disch := omega) only [wrap_id, Int.mul_comm 32]
end
end Go.Rx
end
