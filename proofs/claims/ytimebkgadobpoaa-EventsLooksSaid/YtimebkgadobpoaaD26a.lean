import Derived.Test.YtimebkgadobpoaaN26a
namespace Go.Rx
open Go.Proofs
attribute [local irreducible] Loop ex exF contK roundK retK at_ bodyOf mkEnv
theorem nosig {cfg : Cfg} (h : cfg.sigs = fun _ => none) : ∀ g s, cfg.sigs g = some s → SpecOK cfg.P cfg.elT g s := by
  intro g s hs; rw [h] at hs; cases hs

theorem tags_ok : ∀ (t tg : Nat), tagT t = some tg → Try.prog.underlying t = some (.slice (elTT tg)) ∧ ∃ i z, Try.prog.info? (elTT tg) = some i ∧ i.zero = some z ∧ z.cells = (elEnc tg (elD tg)).toArray ∧ i.size = elM tg ∧ i.bytes ≤ 65536 := by
  intro t tg h
  unfold tagT at h
  split at h
  · injection h with h; subst h; exact tag_ok (by kernel_rfl) (by kernel_rfl) (by kernel_rfl) (by kernel_rfl) (by kernel_rfl) (by kernel_rfl)
  · injection h with h; subst h; exact tag_ok (by kernel_rfl) (by kernel_rfl) (by kernel_rfl) (by kernel_rfl) (by kernel_rfl) (by kernel_rfl)
  · injection h with h; subst h; exact tag_ok (by kernel_rfl) (by kernel_rfl) (by kernel_rfl) (by kernel_rfl) (by kernel_rfl) (by kernel_rfl)
  · injection h with h; subst h; exact tag_ok (by kernel_rfl) (by kernel_rfl) (by kernel_rfl) (by kernel_rfl) (by kernel_rfl) (by kernel_rfl)
  · cases h

theorem mixed_ok : Try.prog.follows .mixedOrders = true := by kernel_rfl

theorem cfg_ok {cfg : Cfg} (h1 : cfg.P = Try.prog) (h2 : cfg.tagOf = tagT) (h3 : cfg.elT = elTT) : CfgOK cfg := by
  obtain ⟨P, tagOf, elT, a, b, c, d, e, f, g⟩ := cfg
  simp only at h1 h2 h3
  subst h1; subst h2; subst h3
  refine ⟨fun t tg h => ?_, tags_ok, mixed_ok⟩
  simp only at h
  unfold tagT at h
  split at h <;> first | (injection h with h; subst h; decide) | cases h

theorem less_ok : SpecOK Try.prog elTT 25 (ev2S lessM) := by
  refine spec_of_exF (cfg := cfgB) (cfg_ok rfl rfl rfl) (nosig rfl) (fn := Try.f25) (by kernel_rfl) (by kernel_rfl) (by kernel_rfl) ?_
  intro args H K h
  obtain ⟨a, b, rfl, rfl, hk⟩ := ev2S_elim h
  refine Eq.mpr (nf25 a b K) ?_
  revert hk
  unfold lessM
  cases (a.Stamp != b.Stamp) <;> cases (!(a.Wrote == b.Wrote)) <;> cases a.Done <;> cases b.Done <;> exact id
theorem refLess_ok : SpecOK Try.prog elTT 26 (ev2S lessM) := by
  refine spec_of_exF (cfg := cfgB) (cfg_ok rfl rfl rfl) (nosig rfl) (fn := Try.f26) (by kernel_rfl) (by kernel_rfl) (by kernel_rfl) ?_
  intro args H K h
  obtain ⟨a, b, rfl, rfl, hk⟩ := ev2S_elim h
  refine Eq.mpr (nf26 a b K) ?_
  revert hk
  unfold lessM
  cases (a.Stamp != b.Stamp) <;> cases (!(a.Wrote == b.Wrote)) <;> cases a.Done <;> cases b.Done <;> exact id

theorem ahead_ok : SpecOK Try.prog elTT 15 (ev2S aheadM) := by
  refine spec_of_exF (cfg := cfgB) (cfg_ok rfl rfl rfl) (nosig rfl) (fn := Try.f15) (by kernel_rfl) (by kernel_rfl) (by kernel_rfl) ?_
  intro args H K h
  obtain ⟨a, b, rfl, rfl, hk⟩ := ev2S_elim h
  refine Eq.mpr (nf15 a b K) ?_
  revert hk
  unfold aheadM
  cases a.Done <;> exact id

theorem refAhead_ok : SpecOK Try.prog elTT 16 (ev2S aheadM) := by
  refine spec_of_exF (cfg := cfgB) (cfg_ok rfl rfl rfl) (nosig rfl) (fn := Try.f16) (by kernel_rfl) (by kernel_rfl) (by kernel_rfl) ?_
  intro args H K h
  obtain ⟨a, b, rfl, rfl, hk⟩ := ev2S_elim h
  refine Eq.mpr (nf16 a b K) ?_
  revert hk
  unfold aheadM
  cases a.Done <;> exact id

end Go.Rx
