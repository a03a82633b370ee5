import Derived.Test.YtimebkgadobpoaaN25e
import Derived.Test.YtimebkgadobpoaaRxR
namespace Go.Rx
open Go.Proofs
attribute [local irreducible] Loop ex exF contK roundK retK at_ bodyOf mkEnv

theorem sigE_ok : ∀ g s, sigE g = some s → SpecOK Try.prog elTT g s := by
  intro g s hs
  unfold sigE at hs
  split at hs
  · injection hs with hs; subst hs; exact right_ok
  · injection hs with hs; subst hs; exact refRight_ok
  · injection hs with hs; subst hs; exact pending_ok
  · injection hs with hs; subst hs; exact ahead_ok
  · injection hs with hs; subst hs; exact refAhead_ok
  · injection hs with hs; subst hs; exact refPending_ok
  · injection hs with hs; subst hs; exact same_ok
  · injection hs with hs; subst hs; exact quiet_ok
  · injection hs with hs; subst hs; exact of_ok
  · injection hs with hs; subst hs; exact refOf_ok
  · injection hs with hs; subst hs; exact last_ok
  · injection hs with hs; subst hs; exact refLast_ok
  · cases hs

theorem nle {a b : Nat} (h : Nat.ble a b = true) : Nat.le a b := Nat.le_of_ble_eq_true h

theorem lives_ok : SpecOK Try.prog elTT 11 trueS := by
  refine spec_of_exF (cfg := cfg11) (cfg_ok rfl rfl rfl) sigE_ok (fn := Try.f11) (by kernel_rfl) (by kernel_rfl) (by kernel_rfl) ?_
  intro args H K h
  obtain ⟨rfl, rfl, hk⟩ := trueS_elim h
  refine Eq.mpr (nf11 K) ⟨nle (by kernel_rfl), ⟨nle (by kernel_rfl), nle (by kernel_rfl), nle (by kernel_rfl), nle (by kernel_rfl), ?_⟩, ⟨nle (by kernel_rfl), nle (by kernel_rfl), nle (by kernel_rfl), nle (by kernel_rfl), ?_⟩⟩
  · refine Eq.mp (congrArg (fun b => K (vb b) []) ?_) hk
    kernel_rfl
  · refine Eq.mp (congrArg (fun b => K (vb b) []) ?_) hk
    kernel_rfl

theorem sigF_ok : ∀ g s, sigF g = some s → SpecOK Try.prog elTT g s := by
  intro g s hs
  unfold sigF at hs
  split at hs
  · injection hs with hs; subst hs; exact lives_ok
  · exact sigE_ok _ _ hs

theorem beq_refl' {a : Bool} : (a == a) = true := by cases a <;> rfl

theorem len60 {l : List Ev} (h : decide ((l.length : Int) > 60) = false) : l.length ≤ 60 := by
  have := of_decide_eq_false h; omega

theorem args_ir {args : List V} {H : Heap} (h : ArgsOf [.el 0, .row 3] 0 args H) : ∃ (w : Int) (l : List Ev), args = [vi w, .row 0] ∧ H = [.row 3 l true] := by
  obtain ⟨w, _, rfl, _, l, _, _, rfl, rfl, _, _, rfl, rfl⟩ := h
  exact ⟨w, l, rfl, rfl⟩
theorem args_rii {args : List V} {H : Heap} (h : ArgsOf [.row 3, .el 0, .el 0] 0 args H) : ∃ (l : List Ev) (t w : Int), args = [.row 0, vi t, vi w] ∧ H = [.row 3 l true] := by
  obtain ⟨l, _, _, rfl, rfl, _, _, t, _, rfl, _, w, _, rfl, _, rfl, rfl⟩ := h
  exact ⟨l, t, w, rfl, rfl⟩
theorem args_irii {args : List V} {H : Heap} (h : ArgsOf [.el 0, .row 3, .el 0, .el 0] 0 args H) : ∃ (w : Int) (l : List Ev) (n t : Int), args = [vi w, .row 0, vi n, vi t] ∧ H = [.row 3 l true] := by
  obtain ⟨w, _, rfl, _, l, _, _, rfl, rfl, _, _, n, _, rfl, _, t, _, rfl, _, rfl, rfl⟩ := h
  exact ⟨w, l, n, t, rfl, rfl⟩

theorem eventsRight_law : SpecOK Try.prog elTT 3 (lawS [.el 0, .row 3]) := by
  refine spec_of_exF (cfg := cfg3) (cfg_ok rfl rfl rfl) sigF_ok (fn := Try.f3) (by kernel_rfl) (by kernel_rfl) (by kernel_rfl) ?_
  intro args H K h
  obtain ⟨ha, hk⟩ := h
  obtain ⟨w, l, rfl, rfl⟩ := args_ir ha
  refine Eq.mpr (nf3 w l K) (br_intro (fun _ => hk _) (fun h => ?_))
  have hl := len60 h
  have hl' : Nat.le (List.length l) 1048576 := Nat.le_trans hl (by decide)
  exact ⟨hl', hl', br_true beq_refl' (hk _)⟩

theorem eventsAhead_law : SpecOK Try.prog elTT 5 (lawS [.el 3, .el 3, .el 3]) := by
  refine spec_of_exF (cfg := cfg5) (cfg_ok rfl rfl rfl) sigF_ok (fn := Try.f5) (by kernel_rfl) (by kernel_rfl) (by kernel_rfl) ?_
  intro args H K h
  obtain ⟨⟨a, _, rfl, _, b, _, rfl, _, c, _, rfl, _, rfl, rfl⟩, hk⟩ := h
  refine Eq.mpr (nf5 a b c K) ?_
  have tail : (Ev.Done a = true → ¬ Ev.End a ≤ Ev.Begin a) → (Ev.Done b = true → ¬ Ev.End b ≤ Ev.Begin b) →
      br (aheadM a a) (K (vb false) []) (br (aheadM a b) (br (aheadM b a) (K (vb false) []) (br (!aheadM a b) (K (vb true) []) (br (!aheadM b c) (K (vb true) []) (br (aheadM a c) (K (vb true) []) (K (vb false) [])))))
        (br (!aheadM a b) (K (vb true) []) (br (!aheadM b c) (K (vb true) []) (br (aheadM a c) (K (vb true) []) (K (vb false) []))))) := by
    intro ha hb
    have key : br (!aheadM a b) (K (vb true) []) (br (!aheadM b c) (K (vb true) []) (br (aheadM a c) (K (vb true) []) (K (vb false) []))) := by
      refine br_intro (fun _ => hk _) (fun h1 => br_intro (fun _ => hk _) (fun h2 => br_true ?_ (hk _)))
      have h1 : aheadM a b = true := by simpa using h1
      have h2 : aheadM b c = true := by simpa using h2
      obtain ⟨p1, p2⟩ := ahead_iff.1 h1
      obtain ⟨q1, q2⟩ := ahead_iff.1 h2
      have := hb q1
      exact ahead_iff.2 ⟨p1, by omega⟩
    refine br_false ?_ (br_intro (fun h1 => br_false ?_ key) (fun _ => key))
    · cases h : aheadM a a with
      | false => rfl
      | true =>
        obtain ⟨p1, p2⟩ := ahead_iff.1 h
        have := ha p1
        omega
    · cases h : aheadM b a with
      | false => rfl
      | true =>
        obtain ⟨p1, p2⟩ := ahead_iff.1 h
        obtain ⟨q1, q2⟩ := ahead_iff.1 h1
        have := ha q1
        have := hb p1
        omega
  have no : ∀ e : Ev, Ev.Done e = false → Ev.Done e = true → ¬ Ev.End e ≤ Ev.Begin e := fun e h h' => by rw [h] at h'; cases h'
  have yes : ∀ e : Ev, decide (Ev.End e ≤ Ev.Begin e) = false → Ev.Done e = true → ¬ Ev.End e ≤ Ev.Begin e := fun e h _ => of_decide_eq_false h
  have stepC : ∀ X : Prop, X → br (Ev.Done c) (br (decide (Ev.End c ≤ Ev.Begin c)) (K (vb true) []) X) X := fun X hx => br_intro (fun _ => br_intro (fun _ => hk _) (fun _ => hx)) (fun _ => hx)
  refine br_intro (fun ha => br_intro (fun _ => hk _) (fun ha' => br_intro (fun hb => br_intro (fun _ => hk _) (fun hb' => ?_)) (fun hb => ?_))) (fun ha => br_intro (fun hb => br_intro (fun _ => hk _) (fun hb' => ?_)) (fun hb => ?_))
  · exact stepC _ (tail (yes a ha') (yes b hb'))
  · exact stepC _ (tail (yes a ha') (no b hb))
  · exact stepC _ (tail (no a ha) (yes b hb'))
  · exact stepC _ (tail (no a ha) (no b hb))

theorem eventsLooks_law : SpecOK Try.prog elTT 6 (lawS [.row 3, .el 0, .el 0]) := by
  refine spec_of_exF (cfg := cfg6) (cfg_ok rfl rfl rfl) sigF_ok (fn := Try.f6) (by kernel_rfl) (by kernel_rfl) (by kernel_rfl) ?_
  intro args H K h
  obtain ⟨ha, hk⟩ := h
  obtain ⟨l, t, w, rfl, rfl⟩ := args_rii ha
  refine Eq.mpr (nf6 l t w K) (br_intro (fun _ => hk _) (fun h => ?_))
  have hl : List.length l ≤ 60 := len60 h
  have hl' : Nat.le (List.length l) 1048576 := Nat.le_trans hl (by decide)
  have hp : ∀ p, Nat.le (List.length (posM p l)) 1048576 := fun p => Nat.le_trans (posN_len p l _) hl'
  refine loop_ind (σ := Nat) (fun i => mkEnv [(0, .row 0), (1, vi t), (2, vi w), (7, vi i)]) (fun _ => [.row 3 l true]) (fun i => i ≤ List.length l) (fun i => List.length l - i) ?_ 0 (Nat.zero_le _)
  intro i hi J hJ
  refine Eq.mpr (nf6r l t w i K J) (br_intro (fun h1 => ?_) (fun h1 => ?_))
  · have h1 : i < List.length l := by have := of_decide_eq_true h1; omega
    refine loop_ind (σ := Nat) (fun k => mkEnv [(0, .row 0), (1, vi t), (2, vi w), (7, vi i), (8, vi k)]) (fun _ => [.row 3 l true]) (fun k => k ≤ List.length l) (fun k => List.length l - k) ?_ 0 (Nat.zero_le _)
    intro k hk' J2 hJ2
    refine Eq.mpr (nf6i l t w i k K J J2) (br_intro (fun h2 => ?_) (fun h2 => ?_))
    · have h2 : k < List.length l := by have := of_decide_eq_true h2; omega
      simp only [offs_nat, Int.toNat_natCast, wrap_succ (show k ≤ 4611686018427387904 by omega)]
      refine Req_intro (inR_nat h1) (Req_intro (inR_nat h1) (Req_intro (inR_nat h2) (Req_intro (inR_nat h2) (Req_intro (inR_nat h1) (Req_intro (inR_nat h1) (Req_intro (inR_nat h2) (Req_intro (inR_nat h2) (br_false ?_ (hJ2 (k + 1) h2 (by omega)))))))))) 
      rw [beq_refl']; rfl
    · rw [wrap_succ (show i ≤ 4611686018427387904 by omega)]
      exact hJ (i + 1) h1 (by omega)
  · refine ⟨hl', hl', hp _, br_true (by unfold eqI; simp) ⟨hl', br_true ?_ ⟨hl', hl', hp _, br_true (by unfold eqI; simp) ⟨hl', hl', br_true (by simp) (hk _)⟩⟩⟩⟩
    unfold quietM
    have : ((((posM (pendM t) l).length : Nat) : Int) == 0) = ((posM (pendM t) l).length == 0) := by
      rw [Bool.eq_iff_iff]; simp
    rw [show (((List.length (posM (pendM t) l) : Nat) : Int) == 0) = ((posM (pendM t) l).length == 0) from this]
    exact beq_refl'

theorem eventsPart_law : SpecOK Try.prog elTT 4 (lawS [.el 0, .row 3, .el 0, .el 0]) := by
  refine spec_of_exF (cfg := cfg4) (cfg_ok rfl rfl rfl) sigF_ok (fn := Try.f4) (by kernel_rfl) (by kernel_rfl) (by kernel_rfl) ?_
  intro args H K h
  obtain ⟨ha, hk⟩ := h
  obtain ⟨w, l, n, t, rfl, rfl⟩ := args_irii ha
  refine Eq.mpr (nf4 w l n t K) (br_intro (fun _ => hk _) (fun h => ?_))
  have hl : List.length l ≤ 60 := len60 h
  have hl' : Nat.le (List.length l) 1048576 := Nat.le_trans hl (by decide)
  refine ⟨hl', br_intro (fun _ => hk _) (fun hr => ?_)⟩
  have hr : rightB w l = true := by simpa using hr
  have e1 : IntKind.i64.wrap ((List.length l : Int) + 1) = (List.length l : Int) + 1 := wrap_id (by omega) (by omega)
  have e2 : IntKind.u64.wrap ((List.length l : Int) + 1) = (List.length l : Int) + 1 := by rw [IntKind.wrap_u64]; omega
  have hu : 0 ≤ IntKind.u64.wrap n := wrap_u64_nonneg n
  have e3 : ∃ q : Nat, q ≤ List.length l ∧ IntKind.i64.wrap (Int.tmod (IntKind.u64.wrap n) ((List.length l : Int) + 1)) = (q : Int) := by
    rw [Int.tmod_eq_emod_of_nonneg hu]
    have a := Int.emod_nonneg (IntKind.u64.wrap n) (show ((List.length l : Int) + 1) ≠ 0 by omega)
    have b := Int.emod_lt_of_pos (IntKind.u64.wrap n) (show 0 < ((List.length l : Int) + 1) by omega)
    refine ⟨(IntKind.u64.wrap n % ((List.length l : Int) + 1)).toNat, by omega, ?_⟩
    rw [wrap_id (by omega) (by omega)]
    omega
  obtain ⟨q, hq, e3⟩ := e3
  simp only [e1, e2, e3, Int.toNat_natCast, List.drop_zero]
  refine Req_intro (by simp; omega) (Req_intro (decide_eq_true ⟨by omega, by omega⟩) (Req_intro (decide_eq_true (by omega)) ⟨?_, ?_⟩))
  · show List.length (List.take q l) ≤ 1048576
    rw [List.length_take]; omega
  refine br_false ?_ ⟨hl', ?_⟩
  · have := rightB_take (w := w) (l := l) q hr
    exact (congrArg (fun b => !b) this).trans rfl
  have hplen : (posM (pendM t) l).length ≤ 60 := Nat.le_trans (posN_len _ l _) hl
  refine loop_ind (σ := Nat) (fun i => mkEnv [(1, .row 0), (9, .row 1), (10, vi i)]) (fun _ => [.row 3 l true, .row 0 (posM (pendM t) l) false]) (fun i => i ≤ (posM (pendM t) l).length) (fun i => (posM (pendM t) l).length - i) ?_ 0 (Nat.zero_le _)
  intro i hi J hJ
  refine Eq.mpr (nf4r w l n t _ i K J) (br_intro (fun h1 => ?_) (fun h1 => ?_))
  · have h1 : i < (posM (pendM t) l).length := by have := of_decide_eq_true h1; omega
    refine loop_ind (σ := Nat) (fun k => mkEnv [(1, .row 0), (9, .row 1), (10, vi i), (11, vi k)]) (fun _ => [.row 3 l true, .row 0 (posM (pendM t) l) false]) (fun k => k ≤ i) (fun k => i - k) ?_ 0 (Nat.zero_le _)
    intro k hk' J2 hJ2
    refine Eq.mpr (nf4i w l n t _ i k K J J2) (br_intro (fun h2 => ?_) (fun h2 => ?_))
    · have h2 : k < i := by have := of_decide_eq_true h2; omega
      have hget : ∀ j, j < (posM (pendM t) l).length → ∃ x : Nat, x < List.length l ∧ (posM (pendM t) l).getD j 0 = (x : Int) ∧ pendM t (List.getD l x dEv) = true := fun j hj => by
        have hm : (posM (pendM t) l).getD j 0 ∈ posN (pendM t) l (List.length l) := by
          unfold List.getD
          rw [List.getElem?_eq_getElem hj]
          exact List.getElem_mem hj
        obtain ⟨x, x1, x2, x3⟩ := posN_mem hm
        exact ⟨x, x1, x2, x3⟩
      obtain ⟨x, x1, x2, x3⟩ := hget i h1
      obtain ⟨y, y1, y2, y3⟩ := hget k (by omega)
      have hyx : y < x := by
        have hs := posN_sorted (pendM t) l (List.length l)
        have := List.pairwise_iff_getElem.1 hs k i (by show k < (posM (pendM t) l).length; omega) h1 h2
        have a1 : (posN (pendM t) l (List.length l))[i]'h1 = (x : Int) := by
          rw [← x2]; unfold List.getD; rw [List.getElem?_eq_getElem h1]; rfl
        have a2 : (posN (pendM t) l (List.length l))[k]'(by show k < (posM (pendM t) l).length; omega) = (y : Int) := by
          rw [← y2]; unfold List.getD; rw [List.getElem?_eq_getElem (show k < (posM (pendM t) l).length by omega)]; rfl
        rw [a1, a2] at this
        omega
      have hap := pend_apart hr hyx x1 y3 x3
      simp only [offs_nat, Int.toNat_natCast, x2, y2, inR_nat h1, inR_nat (show k < (posM (pendM t) l).length by omega), Req_true, wrap_succ (show k ≤ 4611686018427387904 by omega)]
      refine br_false (decide_eq_false (by omega)) (br_false (decide_eq_false (by omega)) (br_false (decide_eq_false (by omega)) (br_false (decide_eq_false (by omega)) (Req_intro (inR_nat x1) (Req_intro (inR_nat x1) (Req_intro (inR_nat y1) (Req_intro (inR_nat y1) (br_false ?_ (hJ2 (k + 1) h2 (by omega))))))))))
      have hne : (List.getD l x dEv).Worker ≠ (List.getD l y dEv).Worker := hap
      exact beq_eq_false_iff_ne.2 hne
    · have h2 : k = i := by have := of_decide_eq_false h2; omega
      subst h2
      rw [wrap_succ (show k ≤ 4611686018427387904 by omega)]
      exact hJ (k + 1) h1 (by omega)
  · exact hk _
end Go.Rx
