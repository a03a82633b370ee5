import Derived.Test.YtimebkgadobpoaaN25b
namespace Go.Rx
open Go.Proofs
attribute [local irreducible] Loop ex exF contK roundK retK at_ bodyOf mkEnv

theorem Req_true {A : Prop} : Req true A = A := rfl
theorem offs_nat (i : Nat) : offs (i : Int) 0 = (i : Int) := rfl

theorem sig33_ok : ∀ g s, sig33 g = some s → SpecOK Try.prog elTT g s := by
  intro g s hs
  unfold sig33 at hs
  split at hs
  · injection hs with hs; subst hs; exact pend1_ok
  · injection hs with hs; subst hs; exact of1_ok
  · cases hs

theorem places_ok : SpecOK Try.prog elTT 33 placesS := by
  refine spec_of_exF (cfg := cfg33) (cfg_ok rfl rfl rfl) sig33_ok (fn := Try.f33) (by kernel_rfl) (by kernel_rfl) (by kernel_rfl) ?_
  intro args H K h
  obtain ⟨l, T, t, rfl, hl, ⟨rfl, hk⟩ | ⟨rfl, hk⟩⟩ := placesS_elim h
  · refine Eq.mpr (nf33_34 l t T K) ?_
    refine loop_ind (σ := Nat) (fun i => mkEnv [(0, .row 0), (1, .fn 34 [.ptr 1 0]), (5, .row 2), (8, .row 0), (9, vi (l.length : Int)), (10, vi i)]) (fun i => [.row 3 l true, .cells T [vi t], .row 0 (posN (pendM t) l i) false]) (fun i => i ≤ l.length) (fun i => l.length - i) ?_ 0 (Nat.zero_le _)
    intro i hi J hJ
    refine Eq.mpr (nf33r_34 l t T _ i K J) (br_intro (fun h1 => ?_) (fun h1 => ?_))
    · have h1 : i < l.length := by simpa using h1
      simp only [offs_nat, inR_nat h1, Req_true, Int.toNat_natCast, wrap_succ (show i ≤ 4611686018427387904 by omega)]
      have hn := hJ (i + 1) h1 (by omega)
      rw [posN_succ] at hn
      have hlen := posN_len (pendM t) l i
      refine br_intro (fun h2 => Req_intro (decide_eq_true (by omega)) ?_) (fun h2 => ?_)
      · rw [if_pos h2] at hn; exact hn
      · rw [if_neg (by rw [h2]; simp), List.append_nil] at hn; exact hn
    · have h1 : i = l.length := by simp at h1; omega
      subst h1
      exact hk
  · refine Eq.mpr (nf33_37 l t T K) ?_
    refine loop_ind (σ := Nat) (fun i => mkEnv [(0, .row 0), (1, .fn 37 [.ptr 1 0]), (5, .row 2), (8, .row 0), (9, vi (l.length : Int)), (10, vi i)]) (fun i => [.row 3 l true, .cells T [vi t], .row 0 (posN (ofM t) l i) false]) (fun i => i ≤ l.length) (fun i => l.length - i) ?_ 0 (Nat.zero_le _)
    intro i hi J hJ
    refine Eq.mpr (nf33r_37 l t T _ i K J) (br_intro (fun h1 => ?_) (fun h1 => ?_))
    · have h1 : i < l.length := by simpa using h1
      simp only [offs_nat, inR_nat h1, Req_true, Int.toNat_natCast, wrap_succ (show i ≤ 4611686018427387904 by omega)]
      have hn := hJ (i + 1) h1 (by omega)
      rw [posN_succ] at hn
      have hlen := posN_len (ofM t) l i
      refine br_intro (fun h2 => Req_intro (decide_eq_true (by omega)) ?_) (fun h2 => ?_)
      · rw [if_pos h2] at hn; exact hn
      · rw [if_neg (by rw [h2]; simp), List.append_nil] at hn; exact hn
    · have h1 : i = l.length := by simp at h1; omega
      subst h1
      exact hk

theorem pend_1 {a b c : Bool} (h2 : a = true) (h3 : b = true) (h4 : (!c) = true) : (a && !(b && c)) = true := by subst h2; subst h3; simpa using h4
theorem pend_2 {a b c : Bool} (h2 : a = true) (h3 : b = true) (h4 : (!c) = false) : (a && !(b && c)) = false := by subst h2; subst h3; simpa using h4
theorem pend_3 {a b c : Bool} (h2 : a = true) (h3 : b = false) : (a && !(b && c)) = true := by subst h2; subst h3; rfl
theorem pend_4 {a b c : Bool} (h2 : a = false) : (a && !(b && c)) = false := by subst h2; rfl

theorem refPending_ok : SpecOK Try.prog elTT 17 (rowsS fun t l => posM (pendM t) l) := by
  refine spec_of_exF (cfg := cfg17) (cfg_ok rfl rfl rfl) (nosig rfl) (fn := Try.f17) (by kernel_rfl) (by kernel_rfl) (by kernel_rfl) ?_
  intro args H K h
  obtain ⟨t, l, rfl, rfl, hl, hk⟩ := rowsS_elim h
  refine Eq.mpr (nf17 l t K) ?_
  refine loop_ind (σ := Nat) (fun i => mkEnv [(0, .row 0), (1, vi t), (5, .row 1), (6, vi i)]) (fun i => [.row 3 l true, .row 0 (posN (pendM t) l i) false]) (fun i => i ≤ l.length) (fun i => l.length - i) ?_ 0 (Nat.zero_le _)
  intro i hi J hJ
  refine Eq.mpr (nf17r l t _ i K J) (br_intro (fun h1 => ?_) (fun h1 => ?_))
  · have h1 : i < l.length := by simpa using h1
    simp only [offs_nat, inR_nat h1, Req_true, Int.toNat_natCast, wrap_succ (show i ≤ 4611686018427387904 by omega)]
    have hn := hJ (i + 1) h1 (by omega)
    rw [posN_succ] at hn
    have hlen := posN_len (pendM t) l i
    refine br_intro (fun h2 => br_intro (fun h3 => br_intro (fun h4 => Req_intro (decide_eq_true (by omega)) ?_) (fun h4 => ?_)) (fun h3 => Req_intro (decide_eq_true (by omega)) ?_)) (fun h2 => ?_)
    · have hp : pendM t (l.getD i dEv) = true := pend_1 h2 h3 h4
      rw [if_pos hp] at hn; exact hn
    · have hp : pendM t (l.getD i dEv) = false := pend_2 h2 h3 h4
      rw [if_neg (by rw [hp]; simp), List.append_nil] at hn; exact hn
    · have hp : pendM t (l.getD i dEv) = true := pend_3 h2 h3
      rw [if_pos hp] at hn; exact hn
    · have hp : pendM t (l.getD i dEv) = false := pend_4 h2
      rw [if_neg (by rw [hp]; simp), List.append_nil] at hn; exact hn
  · have h1 : i = l.length := by simp at h1; omega
    subst h1
    exact hk

theorem refOf_ok : SpecOK Try.prog elTT 21 (rowsS fun t l => posM (ofM t) l) := by
  refine spec_of_exF (cfg := cfg17) (cfg_ok rfl rfl rfl) (nosig rfl) (fn := Try.f21) (by kernel_rfl) (by kernel_rfl) (by kernel_rfl) ?_
  intro args H K h
  obtain ⟨t, l, rfl, rfl, hl, hk⟩ := rowsS_elim h
  refine Eq.mpr (nf21 l t K) ?_
  refine loop_ind (σ := Nat) (fun i => mkEnv [(0, .row 0), (1, vi t), (5, .row 1), (6, vi i)]) (fun i => [.row 3 l true, .row 0 (posN (ofM t) l i) false]) (fun i => i ≤ l.length) (fun i => l.length - i) ?_ 0 (Nat.zero_le _)
  intro i hi J hJ
  refine Eq.mpr (nf21r l t _ i K J) (br_intro (fun h1 => ?_) (fun h1 => ?_))
  · have h1 : i < l.length := by simpa using h1
    simp only [offs_nat, inR_nat h1, Req_true, Int.toNat_natCast, wrap_succ (show i ≤ 4611686018427387904 by omega)]
    have hn := hJ (i + 1) h1 (by omega)
    rw [posN_succ] at hn
    have hlen := posN_len (ofM t) l i
    refine br_intro (fun h2 => Req_intro (decide_eq_true (by omega)) ?_) (fun h2 => ?_)
    · have hp : ofM t (l.getD i dEv) = true := h2
      rw [if_pos hp] at hn; exact hn
    · have hp : ofM t (l.getD i dEv) = false := h2
      rw [if_neg (by rw [hp]; simp), List.append_nil] at hn; exact hn
  · have h1 : i = l.length := by simp at h1; omega
    subst h1
    exact hk

theorem imax1 (a b : Int) : (if b > a then b else a) = max a b := by rw [Int.max_def]; split <;> split <;> omega
theorem imax2 (a b c : Int) : (if c > (if b > a then b else a) then c else (if b > a then b else a)) = max (max a b) c := by rw [imax1, imax1]

theorem last_ok : SpecOK Try.prog elTT 22 (rowIS lastM) := by
  refine spec_of_exF (cfg := cfg22) (cfg_ok rfl rfl rfl) (nosig rfl) (fn := Try.f22) (by kernel_rfl) (by kernel_rfl) (by kernel_rfl) ?_
  intro args H K h
  obtain ⟨l, rfl, rfl, hl, hk⟩ := rowIS_elim h
  unfold lastM at hk
  refine Eq.mpr (nf22 l K) (br_intro (fun h0 => ?_) (fun h0 => ?_))
  · rw [if_pos (by simpa using h0)] at hk; exact hk
  · have h0 : l.length ≠ 0 := by simpa using h0
    rw [if_neg h0] at hk
    refine Req_intro (inR_nat (i := 0) (by omega)) (Req_intro (inR_nat (i := 0) (by omega)) ?_)
    refine loop_ind (σ := Nat) (fun i => mkEnv [(3, vi (lastN l i)), (13, .row 0), (14, vi (l.length : Int)), (15, vi i)]) (fun i => [.row 3 l true]) (fun i => i ≤ l.length) (fun i => l.length - i) ?_ 0 (Nat.zero_le _)
    intro i hi J hJ
    refine Eq.mpr (nf22r l _ i K J) (br_intro (fun h1 => ?_) (fun h1 => ?_))
    · have h1 : i < l.length := by simpa using h1
      have hn := hJ (i + 1) h1 (by omega)
      simp only [offs_nat, inR_nat h1, Req_true, Int.toNat_natCast, wrap_succ (show i ≤ 4611686018427387904 by omega)]
      simp only [lastN] at hn
      refine br_intro (fun h2 => ?_) (fun h2 => ?_)
      · rw [if_pos h2] at hn
        refine Eq.mp (congrArg (fun m => J (mkEnv [(3, vi m), (13, .row 0), (14, vi (l.length : Int)), (15, vi ((i + 1 : Nat) : Int))]) [.row 3 l true]) (Eq.symm ?_)) hn
        exact imax2 _ _ _
      · rw [if_neg (by rw [h2]; simp)] at hn
        refine Eq.mp (congrArg (fun m => J (mkEnv [(3, vi m), (13, .row 0), (14, vi (l.length : Int)), (15, vi ((i + 1 : Nat) : Int))]) [.row 3 l true]) (Eq.symm ?_)) hn
        exact imax1 _ _
    · have h1 : i = l.length := by simp at h1; omega
      subst h1
      exact hk

theorem refLast_ok : SpecOK Try.prog elTT 23 (rowIS lastM) := by
  refine spec_of_exF (cfg := cfg23) (cfg_ok rfl rfl rfl) (nosig rfl) (fn := Try.f23) (by kernel_rfl) (by kernel_rfl) (by kernel_rfl) ?_
  intro args H K h
  obtain ⟨l, rfl, rfl, hl, hk⟩ := rowIS_elim h
  unfold lastM at hk
  refine Eq.mpr (nf23 l K) ?_
  refine loop_ind (σ := Nat) (fun i => mkEnv [(0, .row 0), (3, vi (if i = 0 then 0 else lastN l i)), (4, vi i)]) (fun i => [.row 3 l true]) (fun i => i ≤ l.length) (fun i => l.length - i) ?_ 0 (Nat.zero_le _)
  intro i hi J hJ
  refine Eq.mpr (nf23r l _ i K J) (br_intro (fun h1 => ?_) (fun h1 => ?_))
  · have h1 : i < l.length := by simpa using h1
    have hn := hJ (i + 1) h1 (by omega)
    simp only [offs_nat, inR_nat h1, Req_true, Int.toNat_natCast, wrap_succ (show i ≤ 4611686018427387904 by omega)]
    simp only [Nat.add_eq_zero_iff, Nat.one_ne_zero, and_false, if_false, lastN] at hn
    have fin : ∀ m : Int, (if (l.getD i dEv).Done = true then max (max (lastN l i) (l.getD i dEv).Begin) (l.getD i dEv).End else max (lastN l i) (l.getD i dEv).Begin) = m → J (mkEnv [(0, .row 0), (3, vi m), (4, vi ((i + 1 : Nat) : Int))]) [.row 3 l true] := fun m h => by rw [← h]; exact hn
    refine br_intro (fun h2 => ?_) (fun h2 => ?_)
    · have h2 : i = 0 := by simpa using h2
      subst h2
      have e0 : lastN l 0 = (l.getD 0 dEv).Begin := rfl
      refine br_intro (fun h3 => br_intro (fun h4 => fin _ ?_) (fun h4 => fin _ ?_)) (fun h3 => fin _ ?_)
      · have h4 := of_decide_eq_true h4
        rw [if_pos h3, e0]; omega
      · have h4 := of_decide_eq_false h4
        rw [if_pos h3, e0]; omega
      · rw [if_neg (by rw [h3]; simp), e0]; omega
    · have h2 : i ≠ 0 := by simpa using h2
      rw [if_neg h2]
      refine br_intro (fun h3 => br_intro (fun h4 => br_intro (fun h5 => fin _ ?_) (fun h5 => fin _ ?_)) (fun h4 => fin _ ?_)) (fun h3 => br_intro (fun h4 => br_intro (fun h5 => fin _ ?_) (fun h5 => fin _ ?_)) (fun h4 => fin _ ?_))
      · have h3 := of_decide_eq_true h3; have h5 := of_decide_eq_true h5
        rw [if_pos h4]; omega
      · have h3 := of_decide_eq_true h3; have h5 := of_decide_eq_false h5
        rw [if_pos h4]; omega
      · have h3 := of_decide_eq_true h3
        rw [if_neg (by rw [h4]; simp)]; omega
      · have h3 := of_decide_eq_false h3; have h5 := of_decide_eq_true h5
        rw [if_pos h4]; omega
      · have h3 := of_decide_eq_false h3; have h5 := of_decide_eq_false h5
        rw [if_pos h4]; omega
      · have h3 := of_decide_eq_false h3
        rw [if_neg (by rw [h4]; simp)]; omega
  · have h1 : i = l.length := by simp at h1; omega
    subst h1
    by_cases h0 : l.length = 0
    · rw [if_pos h0] at hk ⊢; exact hk
    · rw [if_neg h0] at hk ⊢; exact hk
end Go.Rx
