import Derived.Test.YtpgapdmmcanffaaD29b
namespace Go.Rx
open Go.Proofs

noncomputable def sig29c : FuncId → Option Spec := fun f => match f with
  | 81 => some s81
  | 82 => some s82
  | 54 => some s54
  | 55 => some s55
  | f => sig29b f
theorem sig29c_ok : ∀ g s, sig29c g = some s → SpecOK Try.prog elTT g s := by
  intro g s hs
  unfold sig29c at hs
  split at hs
  · injection hs with hs; subst hs; exact ok81
  · injection hs with hs; subst hs; exact ok82
  · injection hs with hs; subst hs; exact ok54
  · injection hs with hs; subst hs; exact ok55
  · exact sig29b_ok _ _ hs
end Go.Rx
