/- Sorting, checking: the plain laws. -/
import Derived.Test.YtimebkgadobpoaaD26f
namespace Go.Rx

theorem getD_lt {l : List Int} {k : Nat} (h : k < l.length) : l.getD k 0 = l[k] := by simp [List.getD, List.getElem?_eq_getElem h]
theorem getD_map1 {r : List Int} {k : Nat} (h : k < r.length) : (r.map (· + 1)).getD k 0 = r.getD k 0 + 1 := by
  rw [getD_lt (by simpa using h), getD_lt h, List.getElem_map]

/-! What 'Check' asks, twice the same. -/
/-- Ranks of the two: one apart. -/
theorem rank_ref {l : List Ev} {o : List Int} : ∀ i, (rankTo l o i = none ∧ refTo l o i = none) ∨ (∃ r, rankTo l o i = some r ∧ refTo l o i = some (r.map (· + 1)) ∧ ∀ x ∈ r, -1 ≤ x)
  | 0 => .inr ⟨_, rfl, by simp [refTo], by intro x hx; simp at hx; omega⟩
  | i + 1 => by
    rcases rank_ref i with ⟨h1, h2⟩ | ⟨r, h1, h2, h3⟩
    · exact .inl ⟨rankTo_none h1 1, refTo_none h2 1⟩
    · have hl := rankTo_len h1
      have hiff : okAt l o r i ↔ okAt0 l o (r.map (· + 1)) i := by
        unfold okAt okAt0
        constructor
        · rintro ⟨a, b, c, d⟩
          have hlt : (o.getD i 0).toNat < r.length := by omega
          refine ⟨a, b, ?_, d⟩
          rw [getD_map1 hlt, c]; rfl
        · rintro ⟨a, b, c, d⟩
          have hlt : (o.getD i 0).toNat < r.length := by omega
          refine ⟨a, b, ?_, d⟩
          rw [getD_map1 hlt] at c; omega
      by_cases hok : okAt l o r i
      · refine .inr ⟨_, rankTo_ok h1 hok, ?_, ?_⟩
        · rw [refTo_ok h2 (hiff.1 hok), List.map_set]
        · intro x hx
          rcases List.mem_or_eq_of_mem_set hx with hx | rfl
          · exact h3 x hx
          · omega
      · exact .inl ⟨rankTo_bad h1 hok, refTo_bad h2 fun h => hok (hiff.2 h)⟩

theorem undone_ref {l : List Ev} {r : List Int} (n : Nat) (hn : n ≤ r.length) : undone l r n = undone0 l (r.map (· + 1)) n := by
  unfold undone undone0
  apply Bool.eq_iff_iff.2
  simp only [List.any_eq_true, List.mem_range, Bool.and_eq_true, beq_iff_eq]
  constructor
  · rintro ⟨p, hp, h1, h2⟩
    exact ⟨p, hp, h1, by rw [getD_map1 (by omega), h2]; rfl⟩
  · rintro ⟨p, hp, h1, h2⟩
    rw [getD_map1 (by omega)] at h2
    exact ⟨p, hp, h1, by omega⟩

/-- Each entry's rank is its own place, the ranks of others are none. -/
theorem rank_at {l : List Ev} {o : List Int} : ∀ {i : Nat} {r : List Int}, rankTo l o i = some r →
    (∀ j < i, r.getD (o.getD j 0).toNat 0 = (j : Int)) ∧ (∀ p < l.length, r.getD p 0 = -1 ∨ ∃ j < i, r.getD p 0 = (j : Int) ∧ o.getD j 0 = (p : Int))
  | 0, r, h => by
    simp only [rankTo, Option.some.injEq] at h
    subst h
    refine ⟨fun j hj => by omega, fun p hp => .inl ?_⟩
    rw [getD_lt (by simpa using hp)]; simp
  | i + 1, r, h => by
    obtain ⟨r', e, hok, rfl⟩ := rankTo_inv h
    obtain ⟨a, b⟩ := rank_at e
    have hl := rankTo_len e
    have hlt : (o.getD i 0).toNat < r'.length := by have := hok.2.1; have := hok.1; omega
    have hset : ∀ k, (r'.set (o.getD i 0).toNat (i : Int)).getD k 0 = if (o.getD i 0).toNat = k then (i : Int) else r'.getD k 0 := by
      intro k
      by_cases hk : (o.getD i 0).toNat = k
      · rw [if_pos hk]
        subst hk
        generalize (o.getD i 0).toNat = q at *
        simp [List.getD, List.getElem?_set, hlt]
      · rw [if_neg hk]
        generalize (o.getD i 0).toNat = q at *
        simp [List.getD, List.getElem?_set, hk]
    refine ⟨fun j hj => ?_, fun p hp => ?_⟩
    · rw [hset]
      by_cases hji : j = i
      · subst hji; simp
      · have hj' : j < i := by omega
        have hne : (o.getD i 0).toNat ≠ (o.getD j 0).toNat := by
          intro he
          have h1 := a j hj'
          rw [← he, hok.2.2.1] at h1
          omega
        rw [if_neg hne]
        exact a j hj'
    · rw [hset]
      by_cases hk : (o.getD i 0).toNat = p
      · rw [if_pos hk]
        have := hok.1
        exact .inr ⟨i, by omega, rfl, by omega⟩
      · rw [if_neg hk]
        rcases b p hp with h1 | ⟨j, h1, h2, h3⟩
        · exact .inl h1
        · exact .inr ⟨j, by omega, h2, h3⟩

theorem bad_ref {l : List Ev} {o r : List Int} (h : rankTo l o o.length = some r) : badTo l o r o.length = rbadTo l (r.map (· + 1)) l.length := by
  obtain ⟨ha, hb⟩ := rank_at h
  have hl := rankTo_len h
  have hent := rankTo_ent h
  apply Bool.eq_iff_iff.2
  simp only [badTo, rbadTo, rbadRow, List.any_eq_true, List.mem_range]
  constructor
  · rintro ⟨i, hi, j, hj, hbad⟩
    have e1 := hent i hi
    have e2 := hent j (by omega)
    refine ⟨(o.getD i 0).toNat, by omega, (o.getD j 0).toNat, by omega, ?_⟩
    unfold badAt at hbad
    unfold rbadAt
    rw [getD_map1 (by omega), getD_map1 (by omega), ha i hi, ha j (by omega)]
    rw [ha i hi, ha j (by omega)] at hbad
    simp only [Bool.and_eq_true, decide_eq_true_eq, bne_iff_ne, ne_eq] at *
    exact ⟨by omega, by omega, hbad.1, by omega⟩
  · rintro ⟨p, hp, q, hq, hbad⟩
    unfold rbadAt at hbad
    rw [getD_map1 (by omega), getD_map1 (by omega)] at hbad
    simp only [Bool.and_eq_true, decide_eq_true_eq, bne_iff_ne, ne_eq] at hbad
    obtain ⟨h1, h2, h3, h4⟩ := hbad
    rcases hb p hp with h | ⟨i, hi, hip, hio⟩
    · omega
    rcases hb q hq with h | ⟨j, hj, hjq, hjo⟩
    · omega
    refine ⟨i, hi, j, by omega, ?_⟩
    unfold badAt
    rw [hio, hjo, Int.toNat_natCast, Int.toNat_natCast, hip, hjq]
    simp only [Bool.and_eq_true, decide_eq_true_eq]
    exact ⟨h3, by omega⟩

theorem check_same (l : List Ev) (o : List Int) : checkM l o = refCheckM l o := by
  unfold checkM refCheckM rankM
  rcases rank_ref (l := l) (o := o) o.length with ⟨h1, h2⟩ | ⟨r, h1, h2, _⟩
  · rw [h1, h2]
  · rw [h1, h2]
    have hl := rankTo_len h1
    simp only
    rw [undone_ref l.length (by omega)]
    cases hu : undone0 l (r.map (· + 1)) l.length with
    | true => rfl
    | false =>
      simp only
      rw [bad_ref h1]
      rfl

/-! What 'Sort' makes is in order, and all that is sure. -/
def Ordered (l : List Ev) : List Int → Prop := List.Pairwise fun i j => lessM (l.getD j.toNat dEv) (l.getD i.toNat dEv) = false

theorem insM_split (p : Int → Bool) (x : Int) (out : List Int) : ∃ k, k ≤ out.length ∧ insM p x out = out.take k ++ x :: out.drop k ∧ (∀ j ∈ out.drop k, p j = true) ∧ (k = 0 ∨ p (out.getD (k - 1) 0) = false) := by
  have : ∀ m, m ≤ out.length → (∀ j ∈ out.drop m, p j = true) → ∃ k, k ≤ out.length ∧ (∀ j ∈ out.drop k, p j = true) ∧ (k = 0 ∨ p (out.getD (k - 1) 0) = false) := by
    intro m
    induction m with
    | zero => intro _ h; exact ⟨0, Nat.zero_le _, h, .inl rfl⟩
    | succ m ih =>
      intro hm h
      have hlt : m < out.length := by omega
      cases hp : p (out.getD m 0) with
      | false => exact ⟨m + 1, hm, h, .inr hp⟩
      | true =>
        refine ih (by omega) fun j hj => ?_
        rw [List.drop_eq_getElem_cons hlt] at hj
        rcases List.mem_cons.1 hj with rfl | hj
        · rw [getD_lt hlt] at hp; exact hp
        · exact h j hj
  obtain ⟨k, h1, h2, h3⟩ := this out.length (Nat.le_refl _) (by simp)
  exact ⟨k, h1, insM_at h1 h2 h3, h2, h3⟩

theorem insM_ordered {l : List Ev} {i : Nat} {out : List Int} (h : Ordered l out) : Ordered l (insM (pM l i) i out) := by
  obtain ⟨k, hk, e, h1, h2⟩ := insM_split (pM l i) i out
  have hs : Ordered l (out.take k ++ out.drop k) := by rw [List.take_append_drop]; exact h
  obtain ⟨ha, hb, hab⟩ := List.pairwise_append.1 hs
  rw [e]
  refine List.pairwise_append.2 ⟨ha, List.pairwise_cons.2 ⟨fun j hj => ?_, hb⟩, fun a haa b hbb => ?_⟩
  · have := h1 j hj
    unfold pM at this
    rw [Int.toNat_natCast]
    exact less_asym this
  · rcases List.mem_cons.1 hbb with rfl | hbb
    · rw [Int.toNat_natCast]
      rcases h2 with rfl | h2
      · simp at haa
      · cases k with
        | zero => simp at haa
        | succ k =>
          have hlt : k < out.length := by omega
          rw [Nat.add_sub_cancel, getD_lt hlt] at h2
          unfold pM at h2
          rw [List.take_succ_eq_append_getElem hlt] at haa
          rcases List.mem_append.1 haa with haa | haa
          · have hp : Ordered l (out.take (k + 1)) := ha
            rw [List.take_succ_eq_append_getElem hlt] at hp
            have := (List.pairwise_append.1 hp).2.2 a haa out[k] (by simp)
            exact nless_trans h2 this
          · simp at haa; subst haa
            exact h2
    · exact hab a haa b hbb

theorem sortTo_ordered (l : List Ev) : ∀ n, Ordered l (sortTo l n)
  | 0 => List.Pairwise.nil
  | n + 1 => by
    rw [sortTo_succ]
    unfold sortStep
    split
    · exact insM_ordered (sortTo_ordered l n)
    · exact sortTo_ordered l n

theorem sortTo_has (l : List Ev) : ∀ (n p : Nat), p < n → (l.getD p dEv).Sure = true → (p : Int) ∈ sortTo l n
  | 0, p, h, _ => by omega
  | n + 1, p, h, hs => by
    rw [sortTo_succ]
    unfold sortStep
    by_cases hp : p = n
    · subst hp
      rw [hs]
      exact insM_mem.2 (.inl rfl)
    · have ih := sortTo_has l n p (by omega) hs
      split
      · exact insM_mem.2 (.inr ih)
      · exact ih

theorem sortTo_nodup (l : List Ev) : ∀ n, (sortTo l n).Nodup
  | 0 => List.nodup_nil
  | n + 1 => by
    rw [sortTo_succ]
    have ih := sortTo_nodup l n
    unfold sortStep
    split
    · obtain ⟨k, hk, e, _, _⟩ := insM_split (pM l n) n (sortTo l n)
      rw [e]
      have hperm : ((sortTo l n).take k ++ (n : Int) :: (sortTo l n).drop k).Perm ((n : Int) :: sortTo l n) := by
        have := List.perm_middle (a := (n : Int)) (l₁ := (sortTo l n).take k) (l₂ := (sortTo l n).drop k)
        rwa [List.take_append_drop] at this
      refine hperm.nodup_iff.2 (List.nodup_cons.2 ⟨fun hm => ?_, ih⟩)
      have := (sortTo_mem l n _ hm).2.1
      omega
    · exact ih

/-- All entries are new, sure and in range: the ranks are told. -/
theorem rankTo_all {l : List Ev} {o : List Int} (h : ∀ j ∈ o, 0 ≤ j ∧ j < (l.length : Int) ∧ (l.getD j.toNat dEv).Sure = true) (hd : o.Nodup) : ∀ i, i ≤ o.length → ∃ r, rankTo l o i = some r
  | 0, _ => ⟨_, rfl⟩
  | i + 1, hi => by
    obtain ⟨r, hr⟩ := rankTo_all h hd i (by omega)
    have hlt : i < o.length := by omega
    have hm := h o[i] (List.getElem_mem hlt)
    refine ⟨_, rankTo_ok hr ⟨?_, ?_, ?_, ?_⟩⟩
    · rw [getD_lt hlt]; exact hm.1
    · rw [getD_lt hlt]; exact hm.2.1
    · rcases (rank_at hr).2 (o.getD i 0).toNat (by rw [getD_lt hlt]; omega) with h1 | ⟨j, hj, _, hjo⟩
      · exact h1
      · exfalso
        rw [getD_lt (show j < o.length by omega), getD_lt hlt] at hjo
        have e : o[j] = o[i] := by omega
        have := (List.getElem_inj hd).1 e
        omega
    · rw [getD_lt hlt]; exact hm.2.2

/-- Where all that is done is sure, 'Check' finds no hole in what 'Sort' makes. -/
theorem check_sort {l : List Ev} (h : ∀ p < l.length, (l.getD p dEv).Done = true → (l.getD p dEv).Sure = true) : checkM l (sortM l) ≠ 2 := by
  have hmem : ∀ j ∈ sortM l, 0 ≤ j ∧ j < (l.length : Int) ∧ (l.getD j.toNat dEv).Sure = true := fun j hj => sortTo_mem l l.length j hj
  obtain ⟨r, hr⟩ := rankTo_all hmem (sortTo_nodup l l.length) (sortM l).length (Nat.le_refl _)
  have hl := rankTo_len hr
  have hu : undone l r l.length = false := by
    rw [← Bool.not_eq_true]
    intro hc
    simp only [undone, List.any_eq_true, List.mem_range, Bool.and_eq_true, beq_iff_eq] at hc
    obtain ⟨p, hp, h1, h2⟩ := hc
    have hin := sortTo_has l l.length p hp (h p hp h1)
    obtain ⟨i, hi, e⟩ := List.getElem_of_mem hin
    have h3 := (rank_at hr).1 i hi
    have e' : (sortM l).getD i 0 = (p : Int) := by rw [getD_lt (show i < (sortM l).length from hi)]; exact e
    rw [e', Int.toNat_natCast, h2] at h3
    omega
  unfold checkM rankM
  rw [hr]
  simp only [hu]
  cases badTo l (sortM l) r (sortM l).length <;> decide

end Go.Rx
