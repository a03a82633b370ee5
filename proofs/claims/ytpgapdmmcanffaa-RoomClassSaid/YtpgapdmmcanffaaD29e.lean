/- The document's example of room lives. -/
import Derived.Test.YtpgapdmmcanffaaN29e
import Derived.Test.YtpgapdmmcanffaaD02e
namespace Go.Rx
open Go.Proofs

attribute [local irreducible] Loop ex exF contK roundK retK at_ bodyOf mkEnv

theorem lives9_ok : SpecOK Try.prog elTT 53 trueS :=
  fS_ok (cfg := cfgA 53 sig29e noU9) (cfg_ok rfl rfl rfl) sig29e_ok (fn := Try.f53) (by kernel_rfl) (by kernel_rfl) (by kernel_rfl) fun xs K _ hk => Eq.mpr (nf53 xs K) (by
    refine ⟨fun _ => ⟨trivial, trivial, trivial, trivial, trivial, ?_⟩, fun h => ?_⟩
    · refine Eq.mp (congrArg (fun b => K (vb b) []) ?_) hk
      kernel_rfl
    · have : (true : Bool) = false := h
      cases this)
end Go.Rx
