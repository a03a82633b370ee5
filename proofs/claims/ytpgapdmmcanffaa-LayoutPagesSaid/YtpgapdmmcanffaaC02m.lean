import Derived.Test.YtpgapdmmcanffaaD02l
namespace Go.Rx
open Go.Proofs
noncomputable def sigU : FuncId → Option Spec := fun f => match f with
  | 23 => some q23
  | 43 => some q43
  | f => sigT f
theorem sigU_ok : ∀ g s, sigU g = some s → SpecOK Try.prog elTT g s := by
  intro g s hs
  unfold sigU at hs
  split at hs
  · injection hs with hs; subst hs; exact okq23
  · injection hs with hs; subst hs; exact okq43
  · exact sigT_ok _ _ hs
noncomputable def cfgU (n : Nat) : Cfg := { cfgB with sigs := sigU, plan := planOf n }
end Go.Rx
