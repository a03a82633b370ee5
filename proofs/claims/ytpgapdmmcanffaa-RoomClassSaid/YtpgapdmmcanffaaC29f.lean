import Derived.Test.YtpgapdmmcanffaaD29e
import Derived.Test.YtpgapdmmcanffaaC02h
namespace Go.Rx
open Go.Proofs

noncomputable def sig29f : FuncId → Option Spec := fun f => match f with
  | 12 => some qOf
  | 17 => some q17
  | 50 => some q50
  | 51 => some q51
  | 52 => some q52
  | 53 => some trueS
  | 54 => some q54
  | 55 => some q55
  | 56 => some q56
  | 57 => some q57
  | 58 => some q58
  | 59 => some q59
  | 60 => some q60
  | _ => none
theorem sig29f_ok : ∀ g s, sig29f g = some s → SpecOK Try.prog elTT g s := by
  intro g s hs
  unfold sig29f at hs
  split at hs
  · injection hs with hs; subst hs; exact qOf_ok
  · injection hs with hs; subst hs; exact okq17
  · injection hs with hs; subst hs; exact okq50
  · injection hs with hs; subst hs; exact okq51
  · injection hs with hs; subst hs; exact okq52
  · injection hs with hs; subst hs; exact lives9_ok
  · injection hs with hs; subst hs; exact okq54
  · injection hs with hs; subst hs; exact okq55
  · injection hs with hs; subst hs; exact okq56
  · injection hs with hs; subst hs; exact okq57
  · injection hs with hs; subst hs; exact okq58
  · injection hs with hs; subst hs; exact okq59
  · injection hs with hs; subst hs; exact okq60
  · cases hs
end Go.Rx
