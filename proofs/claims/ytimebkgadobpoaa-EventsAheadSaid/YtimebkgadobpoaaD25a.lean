import Derived.Test.YtimebkgadobpoaaN25a
namespace Go.Rx
open Go.Proofs
attribute [local irreducible] Loop ex exF contK roundK retK at_ bodyOf mkEnv

theorem alone_ok : SpecOK Try.prog elTT 31 (wevS oneM) := by
  refine spec_of_exF (cfg := cfgB) (cfg_ok rfl rfl rfl) (nosig rfl) (fn := Try.f31) (by kernel_rfl) (by kernel_rfl) (by kernel_rfl) ?_
  intro args H K h
  obtain ⟨w, a, rfl, rfl, hk⟩ := wevS_elim h
  refine Eq.mpr (nf31 w a K) ?_
  revert hk
  unfold oneM
  cases decide (a.Begin < 0) <;> cases decide (a.Worker < 0) <;> cases decide (a.Worker ≥ w) <;> cases a.Done <;> cases a.Sure <;> exact id

theorem one_ok : SpecOK Try.prog elTT 32 (wevS oneM) := by
  refine spec_of_exF (cfg := cfgB) (cfg_ok rfl rfl rfl) (nosig rfl) (fn := Try.f32) (by kernel_rfl) (by kernel_rfl) (by kernel_rfl) ?_
  intro args H K h
  obtain ⟨w, a, rfl, rfl, hk⟩ := wevS_elim h
  refine Eq.mpr (nf32 w a K) ?_
  revert hk
  unfold oneM
  cases decide (a.Begin < 0) <;> cases decide (a.Worker < 0) <;> cases decide (a.Worker ≥ w) <;> cases a.Done <;> cases a.Sure <;> exact id

theorem sig34_ok : ∀ g s, sig34 g = some s → SpecOK Try.prog elTT g s := by
  intro g s hs
  unfold sig34 at hs
  split at hs
  · injection hs with hs; subst hs; exact inl_ok (cfg := cfgB) (cfg_ok rfl rfl rfl) (nosig rfl) (fn := Try.f35) (by kernel_rfl) (by kernel_rfl) (by kernel_rfl)
  · injection hs with hs; subst hs; exact inl_ok (cfg := cfgB) (cfg_ok rfl rfl rfl) (nosig rfl) (fn := Try.f36) (by kernel_rfl) (by kernel_rfl) (by kernel_rfl)
  · cases hs

theorem pend1_ok : SpecOK Try.prog elTT 34 (boxS pendM) := by
  refine spec_of_exF (cfg := cfg34) (cfg_ok rfl rfl rfl) sig34_ok (fn := Try.f34) (by kernel_rfl) (by kernel_rfl) (by kernel_rfl) ?_
  intro args H K h
  obtain ⟨t, a, T, rfl, rfl, hk⟩ := boxS_elim h
  refine Eq.mpr (nf34 t a T K) ?_
  revert hk
  unfold pendM
  cases decide (a.Begin ≤ t) <;> cases a.Done <;> exact id

theorem of1_ok : SpecOK Try.prog elTT 37 (boxS ofM) := by
  refine spec_of_exF (cfg := cfg34) (cfg_ok rfl rfl rfl) sig34_ok (fn := Try.f37) (by kernel_rfl) (by kernel_rfl) (by kernel_rfl) ?_
  intro args H K h
  obtain ⟨t, a, T, rfl, rfl, hk⟩ := boxS_elim h
  exact Eq.mpr (nf37 t a T K) hk
end Go.Rx
