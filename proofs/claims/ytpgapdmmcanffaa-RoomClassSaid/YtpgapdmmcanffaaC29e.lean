import Derived.Test.YtpgapdmmcanffaaD29d
import Derived.Test.YtpgapdmmcanffaaD02b
namespace Go.Rx
open Go.Proofs

noncomputable def sig29e : FuncId → Option Spec := fun f => match f with
  | 12 => some (fS2 [11] rightM (fun c => .tup [layV c, vi 0]) (fun _ => .tup [lay0, vi 2]))
  | 54 => some s54
  | 56 => some s56
  | _ => none
theorem sig29e_ok : ∀ g s, sig29e g = some s → SpecOK Try.prog elTT g s := by
  intro g s hs
  unfold sig29e at hs
  split at hs
  · injection hs with hs; subst hs; exact of_ok
  · injection hs with hs; subst hs; exact ok54
  · injection hs with hs; subst hs; exact ok56
  · cases hs
end Go.Rx
