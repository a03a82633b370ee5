import Derived.Test.YtpgapdmmcanffaaN02e
namespace Go.Rx
open Go.Proofs
attribute [local irreducible] Loop ex exF contK roundK retK at_ bodyOf mkEnv mkA

theorem sigL_ok : ∀ g s, sigL g = some s → SpecOK Try.prog elTT g s := by
  intro g s hs
  unfold sigL at hs
  split at hs
  · injection hs with hs; subst hs; exact check_ok
  · injection hs with hs; subst hs; exact of_ok
  · injection hs with hs; subst hs; exact right_ok
  · injection hs with hs; subst hs; exact ok14
  · injection hs with hs; subst hs; exact ok15
  · injection hs with hs; subst hs; exact ok18
  · injection hs with hs; subst hs; exact ok20
  · injection hs with hs; subst hs; exact ok22
  · injection hs with hs; subst hs; exact ok24
  · injection hs with hs; subst hs; exact ok26
  · injection hs with hs; subst hs; exact ok28
  · injection hs with hs; subst hs; exact ok30
  · injection hs with hs; subst hs; exact ok32
  · injection hs with hs; subst hs; exact ok34
  · injection hs with hs; subst hs; exact ok37
  · injection hs with hs; subst hs; exact ok38
  · injection hs with hs; subst hs; exact ok39
  · injection hs with hs; subst hs; exact ok44
  · injection hs with hs; subst hs; exact ok45
  · cases hs

def trueS : Spec := fS [] (fun _ => True) (fun _ => vb true)

theorem lives_ok : SpecOK Try.prog elTT 16 trueS :=
  fS_ok (cfg := cfg16) (cfg_ok rfl rfl rfl) sigL_ok (fn := Try.f16) (by kernel_rfl) (by kernel_rfl) (by kernel_rfl) fun xs K _ hk => by
    have e : mkA [] 0 xs = [] := by unfold mkA; rfl
    rw [e]
    refine Eq.mpr (nf16 K) ⟨fun _ => ⟨trivial, ⟨(show (0 : Int) ≤ 1 by decide), (show (1 : Int) ≤ 1099511627776 by decide)⟩, trivial, fun _ _ _ => by decide, trivial, trivial, trivial, trivial, hk⟩, fun h => ?_⟩
    have : (true : Bool) = false := h
    cases this

noncomputable def sig3 : FuncId → Option Spec := fun f => match f with
  | 16 => some trueS
  | f => sigL f
noncomputable def cfg3 : Cfg := { cfgB with sigs := sig3, plan := planOf 3 }
theorem sig3_ok : ∀ g s, sig3 g = some s → SpecOK Try.prog elTT g s := by
  intro g s hs
  unfold sig3 at hs
  split at hs
  · injection hs with hs; subst hs; exact lives_ok
  · exact sigL_ok _ _ hs
end Go.Rx
