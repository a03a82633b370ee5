import Derived.Test.YtimebkgadobpoaaN25d
namespace Go.Rx
open Go.Proofs
attribute [local irreducible] Loop ex exF contK roundK retK at_ bodyOf mkEnv

theorem sig19_ok : ∀ g s, sig19 g = some s → SpecOK Try.prog elTT g s := by
  intro g s hs
  unfold sig19 at hs
  split at hs
  · injection hs with hs; subst hs; exact pending_ok
  · cases hs

theorem quiet_ok : SpecOK Try.prog elTT 19 (rowBS2 quietM) := by
  refine spec_of_exF (cfg := cfg19) (cfg_ok rfl rfl rfl) sig19_ok (fn := Try.f19) (by kernel_rfl) (by kernel_rfl) (by kernel_rfl) ?_
  intro args H K h
  obtain ⟨t, l, rfl, rfl, hl, hk⟩ := rowBS2_elim h
  refine Eq.mpr (nf19 t l K) ⟨hl, ?_⟩
  refine Eq.mp (congrArg (fun b => K (vb b) [.row 3 l true]) ?_) hk
  unfold quietM
  rw [Bool.eq_iff_iff]
  simp
end Go.Rx
