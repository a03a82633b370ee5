import Derived.Test.YtpgapdmmcanffaaD29a
namespace Go.Rx
open Go.Proofs

noncomputable def sig29b : FuncId → Option Spec := fun f => match f with
  | 89 => some s89
  | 90 => some s90
  | 91 => some s91
  | 92 => some s92
  | 60 => some s60
  | 93 => some s93
  | 14 => some s14
  | _ => none
theorem sig29b_ok : ∀ g s, sig29b g = some s → SpecOK Try.prog elTT g s := by
  intro g s hs
  unfold sig29b at hs
  split at hs
  · injection hs with hs; subst hs; exact ok89
  · injection hs with hs; subst hs; exact ok90
  · injection hs with hs; subst hs; exact ok91
  · injection hs with hs; subst hs; exact ok92
  · injection hs with hs; subst hs; exact ok60
  · injection hs with hs; subst hs; exact ok93
  · injection hs with hs; subst hs; exact ok14
  · cases hs
end Go.Rx
