import Derived.Test.YtpgapdmmcanffaaD29c
namespace Go.Rx
open Go.Proofs

noncomputable def sig29d : FuncId → Option Spec := fun f => match f with
  | 50 => some s50
  | 51 => some s51
  | f => sig29c f
theorem sig29d_ok : ∀ g s, sig29d g = some s → SpecOK Try.prog elTT g s := by
  intro g s hs
  unfold sig29d at hs
  split at hs
  · injection hs with hs; subst hs; exact ok50
  · injection hs with hs; subst hs; exact ok51
  · exact sig29c_ok _ _ hs
end Go.Rx
