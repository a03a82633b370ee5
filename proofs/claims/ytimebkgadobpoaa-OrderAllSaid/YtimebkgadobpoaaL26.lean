/- Orders of calls, plainly. -/
import Derived.Test.YtimebkgadobpoaaM26
namespace Go.Rx

/-- A place is put behind all but the last ones, as long as these let it ahead. -/
def insM (p : Int → Bool) (x : Int) (out : List Int) : List Int := (out.reverse.dropWhile p).reverse ++ x :: (out.reverse.takeWhile p).reverse

def pM (l : List Ev) (i : Nat) (j : Int) : Bool := lessM (l.getD i dEv) (l.getD j.toNat dEv)

def sortStep (l : List Ev) (out : List Int) (i : Nat) : List Int :=
  match (l.getD i dEv).Sure with
  | true => insM (pM l i) i out
  | false => out

def sortTo (l : List Ev) (n : Nat) : List Int := (List.range n).foldl (sortStep l) []
def sortM (l : List Ev) : List Int := sortTo l l.length

theorem sortTo_zero (l : List Ev) : sortTo l 0 = [] := rfl
theorem sortTo_succ (l : List Ev) (n : Nat) : sortTo l (n + 1) = sortStep l (sortTo l n) n := by simp [sortTo, List.range_succ]

theorem takeWhile_append_all {α : Type} (p : α → Bool) : ∀ (a b : List α), (∀ x ∈ a, p x = true) → (a ++ b).takeWhile p = a ++ b.takeWhile p ∧ (a ++ b).dropWhile p = b.dropWhile p
  | [], _, _ => ⟨rfl, rfl⟩
  | x :: a, b, h => by
    have hx := h x (by simp)
    have ih := takeWhile_append_all p a b (fun y hy => h y (by simp [hy]))
    simp [hx, ih.1, ih.2]

theorem insM_at {p : Int → Bool} {x : Int} {out : List Int} {k : Nat} (hk : k ≤ out.length) (h1 : ∀ j ∈ out.drop k, p j = true) (h2 : k = 0 ∨ p (out.getD (k - 1) 0) = false) :
    insM p x out = out.take k ++ x :: out.drop k := by
  unfold insM
  have e : out.reverse = (out.drop k).reverse ++ (out.take k).reverse := by rw [← List.reverse_append, List.take_append_drop]
  obtain ⟨e1, e2⟩ := takeWhile_append_all p (out.drop k).reverse (out.take k).reverse (fun y hy => h1 y (by simpa using hy))
  rw [e, e1, e2]
  have e3 : (out.take k).reverse.takeWhile p = [] ∧ (out.take k).reverse.dropWhile p = (out.take k).reverse := by
    rcases h2 with rfl | h2
    · simp
    · cases k with
      | zero => simp
      | succ k =>
        have hlt : k < out.length := by omega
        rw [List.take_succ_eq_append_getElem hlt, List.reverse_append]
        simp only [Nat.add_sub_cancel, List.getD, List.getElem?_eq_getElem hlt, Option.getD_some] at h2
        simp [h2]
  rw [e3.1, e3.2]
  simp

theorem insM_mem {p : Int → Bool} {x y : Int} {out : List Int} : y ∈ insM p x out ↔ y = x ∨ y ∈ out := by
  unfold insM
  have e : y ∈ out ↔ y ∈ out.reverse.takeWhile p ∨ y ∈ out.reverse.dropWhile p := by
    rw [← List.mem_append, List.takeWhile_append_dropWhile, List.mem_reverse]
  rw [e]
  simp only [List.mem_append, List.mem_reverse, List.mem_cons]
  constructor
  · rintro (h | h | h)
    · exact .inr (.inr h)
    · exact .inl h
    · exact .inr (.inl h)
  · rintro (h | h | h)
    · exact .inr (.inl h)
    · exact .inr (.inr h)
    · exact .inl h

theorem insM_len {p : Int → Bool} {x : Int} {out : List Int} : (insM p x out).length = out.length + 1 := by
  unfold insM
  have e := congrArg List.length (List.takeWhile_append_dropWhile (p := p) (l := out.reverse))
  rw [List.length_append, List.length_reverse] at e
  simp only [List.length_append, List.length_reverse, List.length_cons]
  omega

theorem sortTo_mem (l : List Ev) : ∀ (n : Nat) (j : Int), j ∈ sortTo l n → 0 ≤ j ∧ j < (n : Int) ∧ (l.getD j.toNat dEv).Sure = true
  | 0, j, h => by simp [sortTo_zero] at h
  | n + 1, j, h => by
    rw [sortTo_succ] at h
    unfold sortStep at h
    split at h
    · rename_i hs
      rcases insM_mem.1 h with rfl | h
      · exact ⟨by omega, by omega, by simpa using hs⟩
      · obtain ⟨h1, h2, h3⟩ := sortTo_mem l n j h
        exact ⟨h1, by omega, h3⟩
    · obtain ⟨h1, h2, h3⟩ := sortTo_mem l n j h
      exact ⟨h1, by omega, h3⟩

theorem sortTo_len (l : List Ev) : ∀ (n : Nat), (sortTo l n).length ≤ n
  | 0 => by simp [sortTo_zero]
  | n + 1 => by
    rw [sortTo_succ]
    have := sortTo_len l n
    unfold sortStep
    split
    · rw [insM_len]; omega
    · omega

/-- What stands in the middle of putting a place in. -/
def midM (x : Int) (out : List Int) (k : Nat) : List Int := out.take k ++ x :: out.drop k

theorem mid_len {x : Int} {out : List Int} {k : Nat} (hk : k ≤ out.length) : (midM x out k).length = out.length + 1 := by simp [midM]; omega
theorem mid_below {x : Int} {out : List Int} {k j : Nat} (hk : k ≤ out.length) (hj : j < k) : (midM x out k).getD j 0 = out.getD j 0 := by
  unfold midM
  simp only [List.getD]
  rw [List.getElem?_append_left (by simp; omega), List.getElem?_take, if_pos hj]
theorem mid_at {x : Int} {out : List Int} {k : Nat} (hk : k ≤ out.length) : (midM x out k).getD k 0 = x := by
  unfold midM
  simp only [List.getD]
  rw [List.getElem?_append_right (by simp; omega)]
  have : min k out.length = k := by omega
  simp [this]
theorem mid_swap {x : Int} {out : List Int} {k : Nat} (hk : k + 1 ≤ out.length) : ((midM x out (k + 1)).set (k + 1) (out.getD k 0)).set k x = midM x out k := by
  apply List.ext_getElem?
  intro j
  have hm : min (k + 1) out.length = k + 1 := by omega
  have hm2 : min k out.length = k := by omega
  have hg : out.getD k 0 = out[k] := by simp [List.getD, List.getElem?_eq_getElem (show k < out.length by omega)]
  unfold midM
  rw [List.getElem?_set, List.getElem?_set]
  simp only [List.length_set, List.length_append, List.length_cons, List.length_take, List.length_drop, hm]
  by_cases h1 : k = j
  · subst h1
    rw [if_pos rfl, if_pos (by omega), List.getElem?_append_right (by simp; omega)]
    simp [hm2]
  · rw [if_neg h1]
    by_cases h2 : k + 1 = j
    · subst h2
      rw [if_pos rfl, if_pos (by omega), List.getElem?_append_right (by simp; omega)]
      simp [hm2, List.getElem?_eq_getElem (show k < out.length by omega)]
    · rw [if_neg h2]
      rcases Nat.lt_or_ge j k with h | h
      · rw [List.getElem?_append_left (by simp; omega), List.getElem?_append_left (by simp; omega), List.getElem?_take, List.getElem?_take, if_pos (by omega), if_pos (by omega)]
      · rw [List.getElem?_append_right (by simp; omega), List.getElem?_append_right (by simp; omega)]
        simp only [List.length_take, hm, hm2]
        have e1 : j - (k + 1) = (j - (k + 2)) + 1 := by omega
        have e2 : j - k = (j - (k + 2)) + 2 := by omega
        rw [e1, e2]
        simp only [List.getElem?_cons_succ, List.getElem?_drop]
        congr 1
        omega

def sortS (f : List Ev → List Int) : Spec where
  tr := fun args H K => match args, H with
    | [.row 0], [.row 3 l true] => l.length ≤ 100000 ∧ K (.row 1) [.row 3 l true, .row 0 (f l) false]
    | _, _ => False

theorem sortS_elim {f : List Ev → List Int} {args : List V} {H : Heap} {K : V → Heap → Prop} (h : (sortS f).tr args H K) :
    ∃ (l : List Ev), args = [.row 0] ∧ H = [.row 3 l true] ∧ l.length ≤ 100000 ∧ K (.row 1) [.row 3 l true, .row 0 (f l) false] := by
  unfold sortS at h
  simp only at h
  split at h
  · exact ⟨_, rfl, rfl, h⟩
  · exact h.elim
end Go.Rx
