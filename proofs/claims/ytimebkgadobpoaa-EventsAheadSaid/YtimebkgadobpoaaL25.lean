/- Layer 25: the plain laws of what its functions tell. -/
import Derived.Test.YtimebkgadobpoaaM25
namespace Go.Rx

theorem oneM_facts {w : Int} {e : Ev} (h : oneM w e = true) : 0 ≤ e.Begin ∧ 0 ≤ e.Worker ∧ e.Worker < w ∧ (e.Done = true → e.Begin < e.End) := by
  unfold oneM at h
  simp only [Bool.cond_eq_ite] at h
  split at h
  · cases h
  · split at h
    · cases h
    · split at h
      · cases h
      · rename_i h1 h2 h3
        simp only [decide_eq_true_eq] at h1 h2 h3
        refine ⟨by omega, by omega, by omega, fun hd => ?_⟩
        rw [if_pos hd] at h
        split at h
        · simpa using h
        · cases h

theorem ahead_iff {a b : Ev} : aheadM a b = true ↔ a.Done = true ∧ a.End < b.Begin := by simp [aheadM]

theorem ahead_trans {w : Int} {a b c : Ev} (hb : oneM w b = true) (h1 : aheadM a b = true) (h2 : aheadM b c = true) : aheadM a c = true := by
  obtain ⟨a1, a2⟩ := ahead_iff.1 h1
  obtain ⟨b1, b2⟩ := ahead_iff.1 h2
  have := (oneM_facts hb).2.2.2 b1
  exact ahead_iff.2 ⟨a1, by omega⟩

theorem okAt_iff {w : Int} {l : List Ev} {i : Nat} : okAt w l i = true ↔ oneM w (l.getD i dEv) = true ∧ (i = 0 ∨ (l.getD (i - 1) dEv).Begin < (l.getD i dEv).Begin) ∧
    ∀ k, k < i → (l.getD k dEv).Worker = (l.getD i dEv).Worker → aheadM (l.getD k dEv) (l.getD i dEv) = true := by
  unfold okAt
  rw [Bool.and_eq_true, Bool.and_eq_true, Bool.or_eq_true, List.all_eq_true]
  refine and_congr Iff.rfl (and_congr ?_ ?_)
  · simp
  · constructor
    · intro h k hk hw
      have := h k (by simpa using hk)
      rw [hw] at this
      simpa using this
    · intro h k hk
      have := h k (by simpa using hk)
      by_cases hw : (l.getD k dEv).Worker = (l.getD i dEv).Worker
      · rw [this hw]; simp
      · simp only [Bool.or_eq_true, Bool.not_eq_true']
        exact .inl (by simpa using hw)

theorem rightB_iff {w : Int} {l : List Ev} : rightB w l = true ↔ ∀ i, i < l.length → okAt w l i = true := by
  unfold rightB
  rw [List.all_eq_true]
  exact ⟨fun h i hi => h i (by simpa using hi), fun h i hi => h i (by simpa using hi)⟩

theorem rightB_false {w : Int} {l : List Ev} {i : Nat} (hi : i < l.length) (h : ¬ okAt w l i = true) : rightB w l = false := by
  cases hr : rightB w l with
  | false => rfl
  | true => exact absurd (rightB_iff.1 hr i hi) h

/-- What the map of last calls is behind i calls. -/
def lastOK (l : List Ev) (i : Nat) (m : Int → Option Int) : Prop :=
  ∀ a, (∀ y, m a = some y → ∃ k : Nat, y = (k : Int) + 1 ∧ k < i ∧ (l.getD k dEv).Worker = a ∧ ∀ j, k < j → j < i → (l.getD j dEv).Worker ≠ a) ∧ (m a = none → ∀ j, j < i → (l.getD j dEv).Worker ≠ a)

theorem lastOK_zero (l : List Ev) : lastOK l 0 (fun _ => none) := fun a => ⟨fun y h => by (cases h), fun _ j hj => by omega⟩

theorem lastOK_succ {l : List Ev} {i : Nat} {m : Int → Option Int} (h : lastOK l i m) : lastOK l (i + 1) (mapSet m (l.getD i dEv).Worker ((i : Int) + 1)) := by
  intro a
  obtain ⟨h1, h2⟩ := h a
  refine ⟨fun y hy => ?_, fun hn j hj => ?_⟩
  · unfold mapSet at hy
    split at hy
    · rename_i e
      injection hy with hy
      exact ⟨i, hy.symm, by omega, e.symm, fun j h1 h2 => by omega⟩
    · rename_i e
      obtain ⟨k, e1, e2, e3, e4⟩ := h1 y hy
      refine ⟨k, e1, by omega, e3, fun j hj1 hj2 => ?_⟩
      by_cases hji : j = i
      · subst hji; exact fun h => e h.symm
      · exact e4 j hj1 (by omega)
  · unfold mapSet at hn
    split at hn
    · cases hn
    · rename_i e
      by_cases hji : j = i
      · subst hji; exact fun h => e h.symm
      · exact h2 hn j (by omega)

/-- The last call of the same worker decides. -/
theorem okAt_of {w : Int} {l : List Ev} {i : Nat} {m : Int → Option Int} (h : lastOK l i m) (hall : ∀ j, j < i → okAt w l j = true) (h1 : oneM w (l.getD i dEv) = true)
    (h2 : i = 0 ∨ (l.getD (i - 1) dEv).Begin < (l.getD i dEv).Begin) (h3 : ∀ k : Nat, m (l.getD i dEv).Worker = some ((k : Int) + 1) → aheadM (l.getD k dEv) (l.getD i dEv) = true) : okAt w l i = true := by
  refine okAt_iff.2 ⟨h1, h2, fun k hk hw => ?_⟩
  obtain ⟨g1, g2⟩ := h (l.getD i dEv).Worker
  cases hm : m (l.getD i dEv).Worker with
  | none => exact absurd hw (g2 hm k hk)
  | some y =>
    obtain ⟨q, rfl, q1, q2, q3⟩ := g1 y hm
    have ha := h3 q hm
    rcases Nat.lt_trichotomy k q with hlt | heq | hgt
    · have hq := okAt_iff.1 (hall q q1)
      exact ahead_trans hq.1 (hq.2.2 k hlt (by rw [hw, q2])) ha
    · subst heq; exact ha
    · exact absurd hw (q3 k hgt hk)

def cntL (w : Int) (left : Int → Bool) : Nat := ((List.range w.toNat).filter fun (x : Nat) => left (Int.ofNat x)).length

theorem filter_lt {α : Type} {p q : α → Bool} : ∀ {l : List α}, (∀ x, q x = true → p x = true) → (∃ x ∈ l, p x = true ∧ q x = false) → (l.filter q).length < (l.filter p).length
  | [], _, h => by obtain ⟨x, hx, _⟩ := h; cases hx
  | a :: r, hpq, h => by
    have hle : (r.filter q).length ≤ (r.filter p).length := by
      clear h
      induction r with
      | nil => simp
      | cons b r ih =>
        rw [List.filter_cons, List.filter_cons]
        by_cases hq : q b = true
        · rw [if_pos hq, if_pos (hpq b hq)]; simpa using ih
        · rw [if_neg hq]; split
          · simp; omega
          · exact ih
    obtain ⟨x, hx, h1, h2⟩ := h
    rw [List.filter_cons, List.filter_cons]
    by_cases hxa : x = a
    · subst hxa
      rw [if_neg (by rw [h2]; simp), if_pos h1]
      simp; omega
    · have hxr : x ∈ r := by
        rcases List.mem_cons.1 hx with h | h
        · exact absurd h hxa
        · exact h
      have ih := filter_lt (l := r) hpq ⟨x, hxr, h1, h2⟩
      by_cases hq : q a = true
      · rw [if_pos hq, if_pos (hpq a hq)]; simpa using ih
      · rw [if_neg hq]; split
        · simp; omega
        · exact ih

theorem cntL_drop {w : Int} {left : Int → Bool} {a : Int} (h0 : 0 ≤ a) (h1 : a < w) (hl : left a = true) : cntL w (mapDrop left a) < cntL w left := by
  unfold cntL
  refine filter_lt (fun x hx => ?_) ⟨a.toNat, by simp; omega, ?_, ?_⟩
  · unfold mapDrop at hx
    simp only [Bool.and_eq_true] at hx
    exact hx.1
  · rw [show Int.ofNat a.toNat = a by rw [Int.ofNat_eq_natCast]; omega]; exact hl
  · unfold mapDrop
    rw [show Int.ofNat a.toNat = a by rw [Int.ofNat_eq_natCast]; omega]
    simp

theorem cntL_le (w : Int) (left : Int → Bool) : cntL w left ≤ w.toNat := by
  unfold cntL
  exact Nat.le_trans (List.length_filter_le _ _) (by simp)

/-- A part, from the first call on, of calls that may be may be. -/
theorem rightB_take {w : Int} {l : List Ev} (n : Nat) (h : rightB w l = true) : rightB w (l.take n) = true := by
  refine rightB_iff.2 fun i hi => ?_
  have hi' : i < l.length ∧ i < n := by rw [List.length_take] at hi; omega
  have hg : ∀ j, j ≤ i → (l.take n).getD j dEv = l.getD j dEv := fun j hj => by
    simp only [List.getD, List.getElem?_take]
    rw [if_pos (by omega)]
  obtain ⟨h1, h2, h3⟩ := okAt_iff.1 (rightB_iff.1 h i hi'.1)
  refine okAt_iff.2 ⟨by rw [hg i (Nat.le_refl _)]; exact h1, ?_, fun k hk hw => ?_⟩
  · rw [hg i (Nat.le_refl _), hg (i - 1) (by omega)]; exact h2
  · rw [hg i (Nat.le_refl _), hg k (by omega)] at hw ⊢
    exact h3 k hk hw

/-- Of calls that may be no two of a worker are pending. -/
theorem pend_apart {w t : Int} {l : List Ev} (h : rightB w l = true) {k i : Nat} (hk : k < i) (hi : i < l.length) (p1 : pendM t (l.getD k dEv) = true) (p2 : pendM t (l.getD i dEv) = true) :
    (l.getD i dEv).Worker ≠ (l.getD k dEv).Worker := by
  intro hw
  obtain ⟨h1, h2, h3⟩ := okAt_iff.1 (rightB_iff.1 h i hi)
  obtain ⟨a1, a2⟩ := ahead_iff.1 (h3 k hk hw.symm)
  unfold pendM at p1 p2
  simp only [Bool.and_eq_true, Bool.not_eq_true', decide_eq_true_eq, Bool.and_eq_false_iff, decide_eq_false_iff_not] at p1 p2
  rcases p1.2 with h | h
  · rw [a1] at h; cases h
  · omega
end Go.Rx
