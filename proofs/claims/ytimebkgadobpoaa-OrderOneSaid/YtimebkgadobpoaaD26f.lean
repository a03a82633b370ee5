import Derived.Test.YtimebkgadobpoaaN26f
import Derived.Test.YtimebkgadobpoaaRxR
namespace Go.Rx
open Go.Proofs
attribute [local irreducible] Loop ex exF contK roundK retK at_ bodyOf mkEnv

theorem sigA_ok' : ∀ g s, sigA 24 g = some s → SpecOK Try.prog elTT g s := by
  intro g s hs
  unfold sigA at hs
  split at hs
  · injection hs with hs; subst hs; exact ahead_ok
  · injection hs with hs; subst hs; exact refAhead_ok
  · injection hs with hs; subst hs; exact less_ok
  · injection hs with hs; subst hs; exact refLess_ok
  · injection hs with hs; subst hs; exact same_ok
  · injection hs with hs; subst hs; exact sort_ok
  · injection hs with hs; subst hs; exact refSort_ok
  · injection hs with hs; subst hs; exact check_ok
  · injection hs with hs; subst hs; exact refCheck_ok
  · cases hs
  · cases hs

theorem lives_ok : SpecOK Try.prog elTT 24 trueS0 := by
  refine spec_of_exF (cfg := cfg24) (cfg_ok rfl rfl rfl) sigA_ok' (fn := Try.f24) (by kernel_rfl) (by kernel_rfl) (by kernel_rfl) ?_
  intro args H K h
  unfold trueS0 at h
  simp only at h
  split at h
  · refine Eq.mpr (nf24 K) ⟨Nat.le_of_ble_eq_true rfl, Nat.le_of_ble_eq_true (by kernel_rfl), Nat.le_of_ble_eq_true rfl, Nat.le_of_ble_eq_true rfl, Nat.le_of_ble_eq_true rfl, Nat.le_of_ble_eq_true rfl, ?_⟩
    exact h
  · exact h.elim

theorem sigA_ok (n : Nat) (hn : Nat.beq n 24 = false) : ∀ g s, sigA n g = some s → SpecOK Try.prog elTT g s := by
  intro g s hs
  unfold sigA at hs
  split at hs
  · injection hs with hs; subst hs; exact ahead_ok
  · injection hs with hs; subst hs; exact refAhead_ok
  · injection hs with hs; subst hs; exact less_ok
  · injection hs with hs; subst hs; exact refLess_ok
  · injection hs with hs; subst hs; exact same_ok
  · injection hs with hs; subst hs; exact sort_ok
  · injection hs with hs; subst hs; exact refSort_ok
  · injection hs with hs; subst hs; exact check_ok
  · injection hs with hs; subst hs; exact refCheck_ok
  · rw [hn] at hs; injection hs with hs; subst hs; exact lives_ok
  · cases hs

/-! The order of two calls, plainly. -/
def b01 (b : Bool) : Int := match b with | true => 0 | false => 1
theorem b01_range (b : Bool) : 0 ≤ b01 b ∧ b01 b ≤ 1 := by cases b <;> decide

theorem less_iff (a b : Ev) : lessM a b = true ↔ a.Stamp < b.Stamp ∨ (a.Stamp = b.Stamp ∧ (b01 a.Wrote < b01 b.Wrote ∨ (b01 a.Wrote = b01 b.Wrote ∧ (b01 a.Done < b01 b.Done ∨ (b01 a.Done = 0 ∧ b01 b.Done = 0 ∧ a.End < b.End))))) := by
  unfold lessM
  by_cases hs : a.Stamp = b.Stamp
  · rw [hs]
    cases a.Wrote <;> cases b.Wrote <;> cases a.Done <;> cases b.Done <;> simp [b01]
  · have h1 : (a.Stamp != b.Stamp) = true := by simpa using hs
    rw [h1]
    simp [hs]

theorem less_irr (a : Ev) : lessM a a = false := by
  rw [← Bool.not_eq_true, less_iff]
  omega

theorem less_asym {a b : Ev} (h : lessM a b = true) : lessM b a = false := by
  rw [← Bool.not_eq_true, less_iff]
  rw [less_iff] at h
  omega

/-- What is not before what is not before, is not before. -/
theorem nless_trans {a b c : Ev} (h1 : lessM a b = false) (h2 : lessM b c = false) : lessM a c = false := by
  rw [← Bool.not_eq_true, less_iff] at *
  have ha := b01_range a.Wrote
  have hb := b01_range b.Wrote
  have hc := b01_range c.Wrote
  have da := b01_range a.Done
  have db := b01_range b.Done
  have dc := b01_range c.Done
  generalize b01 a.Wrote = wa at *
  generalize b01 b.Wrote = wb at *
  generalize b01 c.Wrote = wc at *
  generalize b01 a.Done = xa at *
  generalize b01 b.Done = xb at *
  generalize b01 c.Done = xc at *
  omega

theorem less_trans {a b c : Ev} (h1 : lessM a b = true) (h2 : lessM b c = true) : lessM a c = true := by
  cases h : lessM a c with
  | true => rfl
  | false =>
    have := nless_trans h (less_asym h2)
    rw [h1] at this; cases this

theorem one_law : SpecOK Try.prog elTT 10 (lawS [.el 3, .el 3, .el 3]) := by
  refine spec_of_exF (cfg := cfg10) (cfg_ok rfl rfl rfl) (sigA_ok 10 rfl) (fn := Try.f10) (by kernel_rfl) (by kernel_rfl) (by kernel_rfl) ?_
  intro args H K h
  obtain ⟨⟨a, _, rfl, _, b, _, rfl, _, c, _, rfl, _, rfl, rfl⟩, hk⟩ := h
  refine Eq.mpr (nf10 a b c K) ?_
  have hab := @less_asym a b
  have htr := @less_trans a b c
  rw [less_irr a]
  cases h1 : lessM a b <;> cases h2 : lessM b a <;> cases h3 : lessM b c <;> cases h4 : lessM a c <;> simp_all [br]

theorem args_ev {args : List V} {H : Heap} (h : ArgsOf [.row 3] 0 args H) : ∃ l : List Ev, args = [.row 0] ∧ H = [.row 3 l true] := by
  obtain ⟨l, _, _, rfl, rfl, _, _, rfl, rfl⟩ := h
  exact ⟨l, rfl, rfl⟩
theorem args_ev_int {args : List V} {H : Heap} (h : ArgsOf [.row 3, .row 0] 0 args H) : ∃ (l : List Ev) (o : List Int), args = [.row 0, .row 1] ∧ H = [.row 3 l true, .row 0 o true] := by
  obtain ⟨l, _, _, rfl, rfl, _, _, o, _, _, rfl, rfl, _, _, rfl, rfl⟩ := h
  exact ⟨l, o, rfl, rfl⟩

theorem sorts_law : SpecOK Try.prog elTT 7 (lawS [.row 3]) := by
  refine spec_of_exF (cfg := cfg7) (cfg_ok rfl rfl rfl) (sigA_ok 7 rfl) (fn := Try.f7) (by kernel_rfl) (by kernel_rfl) (by kernel_rfl) ?_
  intro args H K h
  obtain ⟨ha, hk⟩ := h
  obtain ⟨l, rfl, rfl⟩ := args_ev ha
  refine Eq.mpr (nf7 l K) (br_intro (fun _ => hk _) (fun h60 => ?_))
  have h60 : l.length ≤ 60 := by have := of_decide_eq_false h60; omega
  refine loop_ind (σ := Nat) (fun i => mkEnv [(0, .row 0), (3, vi ((i + 1 : Nat) : Int))]) (fun _ => [.row 3 l true]) (fun i => True) (fun i => l.length - i) ?_ 0 trivial
  intro i _ J hJ
  refine Eq.mpr (nf7r l ((i + 1 : Nat) : Int) K J) (br_intro (fun h1 => ?_) (fun h1 => ?_))
  · have h1 : i + 1 < l.length := by have := of_decide_eq_true h1; omega
    rw [wrap_pred (by omega), wrap_succ (by omega)]
    have i1 : inR (i : Int) l.length = true := inR_nat (by omega)
    have i2 : inR ((i + 1 : Nat) : Int) l.length = true := inR_nat h1
    refine Req_intro i1 (Req_intro i1 (Req_intro i2 (Req_intro i2 (Req_intro i1 (Req_intro i1 (Req_intro i2 (Req_intro i2 ?_)))))))
    refine br_false (by simp) ?_
    refine Req_intro i2 (Req_intro i2 (Req_intro i1 (Req_intro i1 (Req_intro i2 (Req_intro i2 (Req_intro i1 (Req_intro i1 ?_)))))))
    refine br_false (by simp) ?_
    exact hJ (i + 1) trivial (by omega)
  · have := sortTo_len l l.length
    refine ⟨(show l.length ≤ 100000 by omega), (show l.length ≤ 100000 by omega), (show (sortM l).length ≤ 1048576 by unfold sortM; omega), br_true (by simp [eqI]) (hk _)⟩
end Go.Rx
